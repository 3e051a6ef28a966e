import Derived.Test.Qxb6500401aGreatNe
import Derived.Test.Qxb6500401aGreatEo
set_option linter.unusedVariables false
set_option linter.unusedSimpArgs false
namespace Go.Proofs.Qxb6500401aGreat
open Go.Eng Go.Trl Go.Chk Go.Wat Go.Cnf
/-- the script, as it lies in the heap -/
def Scr (base : Nat) (h : Heap) (sa : Option Addr) (n : Nat) : Prop := ∀ i, i < n → ∃ sb so, sa = some ⟨sb, so, none⟩ ∧ sb < base ∧ ∃ k a b c s u, cellsH h ⟨sb, so + i * 6, none⟩ 0 6 = some [.int .i64 k, .int .i64 a, .int .i64 b, .int .i64 c, .string s, .string u]
theorem cellsH_same {h h' : Heap} {b o : Nat} (he : h'[b]? = h[b]?) : ∀ (n i : Nat), cellsH h' ⟨b, o, none⟩ i n = cellsH h ⟨b, o, none⟩ i n
  | 0, _ => rfl
  | n + 1, i => by
    have e : cellH h' ((⟨b, o, none⟩ : Addr).add i) = cellH h ((⟨b, o, none⟩ : Addr).add i) := by rw [add_mk]; unfold cellH; simp only [he]
    simp only [cellsH, e, cellsH_same he n (i + 1)]
theorem Scr.ext {base : Nat} {h h' : Heap} {sa : Option Addr} {n : Nat} (hs : Scr base h sa n) (hb : base ≤ h.size) (he : Ext (fun b => base ≤ b) h h') : Scr base h' sa n := by
  intro i hi
  obtain ⟨sb, so, e, hlt, k, a, b, c, s, u, hc⟩ := hs i hi
  exact ⟨sb, so, e, hlt, k, a, b, c, s, u, by rw [cellsH_same (he.2 sb (by omega) (by omega))]; exact hc⟩

theorem oq {h : Heap} {b : Nat} {k oa ob oc : Int} {os ot : ByteArray} {t : TypeId} (hB : B h b #[.int .i64 k, .int .i64 oa, .int .i64 ob, .int .i64 oc, .string os, .string ot] t) : cellH h ⟨b, 0, none⟩ = some (.int .i64 k) ∧ cellH h ⟨b, 4, none⟩ = some (.string os) := ⟨hB.cell 0, hB.cell 4⟩
def WZ0 : WC := ⟨fun _ => 0, fun _ => 0, 0, 0, 0, fun _ => 0, 0⟩
theorem first {h : Heap} {c : CF} {F : Nat → Int} (od : Ord c) (dd : B h c.D (wcs c ⟨#[]⟩ none 0 0) 40) (sb : SB h c.V c.P c.X c.C c.K none 0 0 ⟨fun _ => 0, F, 1, 0, 0, 0, 0, 0⟩) (hF : ∀ v, v < 13 → F v = -1) (pr : ChkW.Par h c.P none 0 Go.Cnf.p0) (rs : RS h c.X ⟨[], 0, 0⟩ 0) (wb : WB h c.C c.X WZ0) (lb : LB h c.K c.C c.X LS.z 0) (sv : B h c.Sv #[.pointer (some ⟨c.M, 0, none⟩)] 70) (mm : ∃ u w : Int, B h c.M #[.int .i64 u, .int .i64 w] 109) (km : ChkW.KM h c.KC c.N) :
    LW h c none 0 ⟨fun _ => 0, F, 1, 0, 0, 0, 0, 0⟩ WZ0 (fun _ => none) ⟨[], 0, 0⟩ 0 none 0 ⟨#[]⟩ none 0 [] := by
  obtain ⟨o1, o2, o3, o4, o5, o6, o7, o8, o9, o10⟩ := od.o
  have hal : aL (fun _ => none) = 0 := by
    unfold aL cI
    rw [List.length_eq_zero_iff, List.filter_eq_nil_iff]
    intro i _; simp
  refine ⟨od, dd, ⟨⟨sb, ⟨wb, wi_zero rfl rfl rfl (fun _ _ => rfl) (fun _ _ => rfl), rs, by omega⟩, lb, IL.nil _, ⟨by omega, by omega, by omega, by omega, by omega⟩, fun b e => by simp [blkA] at e⟩, pr, ⟨⟨rfl, hF 0 (by omega), fun v hv => ⟨by simp, by simp⟩, fun v hv => .inr (hF v hv), by simp, by simp⟩, ⟨by simp, fun k hk => by simp, hal.symm⟩, by simp, by simp, by simp, fun _ => by simp⟩, ⟨by omega, by omega, by omega, by omega, by simp [blkA]⟩, fun z e => by simp [blkA] at e⟩, sv, mm, km, OwnR.nil _ _ _ _, by simp, fun a ha => by simp at ha, fun z e => by simp [blkA] at e, fun z e => by simp [blkA] at e, fun z e => by simp [blkA] at e⟩

def LWE (h : Heap) (c : CF) (N : Nat) : Prop := ∃ la lc Q W cl s p pa pc txt ma mc mine, LW h c la lc Q W cl s p pa pc txt ma mc mine ∧ txt.size ≤ 1048577 ∧ p ≤ N
theorem LWE.new {h h' : Heap} {c : CF} {N : Nat} (w : LWE h c N) (he : Ext (fun _ => False) h h') : LWE h' c N := by
  obtain ⟨la, lc, Q, W, cl, s, p, pa, pc, txt, ma, mc, mine, w1, w2, w3⟩ := w
  exact ⟨la, lc, Q, W, cl, s, p, pa, pc, txt, ma, mc, mine, w1.new he, w2, w3⟩
set_option maxHeartbeats 3200000 in
theorem play_spec (h : Heap) (c : CF) (la : Option Addr) (lc : Nat) (Q : SR) (W : WC) (cl : Nat → Option (List Int)) (s : TS) (p : Nat) (pa : Option Addr) (pc : Nat) (txt : ByteArray) (ma : Option Addr) (mc : Nat) (mine : List (Option Addr)) (w : LW h c la lc Q W cl s p pa pc txt ma mc mine) (k oa ob oc : Int) (os ot : ByteArray) (htx : txt.size ≤ 1048577) (hp : p ≤ 800000000000000000) :
    FC Tryz.prog 9 (#[.pointer (some ⟨c.D, 0, none⟩), .agg #[.int .i64 k, .int .i64 oa, .int .i64 ob, .int .i64 oc, .string os, .string ot]] : Array Value) h fun rv h' => rv = .bool true ∧ ∃ la' lc' Q' W' cl' s' p' pa' pc' txt' ma' mc' mine', LW h' c la' lc' Q' W' cl' s' p' pa' pc' txt' ma' mc' mine' ∧ txt'.size ≤ 1048577 ∧ p' ≤ p + 100000 ∧ Ext (fun z => c.base ≤ z) h h' := by
  have hD := w.lt
  obtain ⟨o1, o2, o3, o4, o5, o6, o7, o8, o9, o10⟩ := w.od.o
  refine FC_of [(0, .pointer (some ⟨c.D, 0, none⟩)), (1, .agg #[.int .i64 k, .int .i64 oa, .int .i64 ob, .int .i64 oc, .string os, .string ot])] Tryz.func9 rfl Tryz.ntmps9 (by simp) rfl (fun R hR => ?_)
  refine V_sr T.mix (by kernel_rfl) (fun K1 hK1 => ?_)
  refine S_boxA rfl ?_
  generalize hh : Array.push h _ = h1
  have hO : B h1 h.size #[.int .i64 k, .int .i64 oa, .int .i64 ob, .int .i64 oc, .string os, .string ot] 44 := by rw [← hh]; exact B.new _ _ _
  have hEh1 : Ext (fun _ => False) h h1 := by rw [← hh]; exact Ext.push _ _ _
  have hsh1 : h1.size = h.size + 1 := by rw [← hh]; simp
  clear hh
  have w1 := w.new hEh1
  try clear o0_ o4_
  obtain ⟨o0_, o4_⟩ := oq (hO)
  try clear d0 d1 d2 d3 d4 d5 d6 d7 d8 dok
  obtain ⟨d0, d1, d2, d3, d4, d5, d6, d7, d8, dok⟩ := dq (w1.dd)
  refine S_as rfl ?_
  refine S_nil (hK1 _ _ (V_keep [0, 3] (by simp only [proj, lk, reduceIte, Nat.reduceEqDiff]; rfl) ?_)); clear hK1
  refine V_seq (fun K2 hK2 => ?_)
  refine V_sr T.mix (by kernel_rfl) (fun K3 hK3 => ?_)
  first | refine S_fa0 T.f44_0 rfl ?_ | refine S_fa T.f44_0 rfl ?_
  refine S_ldK T.ag3 rfl (fun K' hK' => ?_)
  simp (disch := omega) only [d0, d1, d2, d3, d4, d5, d6, d7, d8, o0_, o4_, oP_some, Nat.add_zero]
  refine hK' _ ?_; clear hK' K'
  refine S_nil (hK3 _ _ (V_keep [0, 3, 8] (by simp only [proj, lk, reduceIte, Nat.reduceEqDiff]; rfl) ?_)); clear hK3
  refine V_block ?_
  refine V_sr T.mix (by kernel_rfl) (fun K4 hK4 => ?_)
  refine S_bin rfl rfl rfl ?_
  refine S_as rfl ?_
  refine S_nil (hK4 _ _ (V_keep [0, 3, 8, 9] (by simp only [proj, lk, reduceIte, Nat.reduceEqDiff]; rfl) ?_)); clear hK4
  refine V_condp rfl (fun c409 => ?_) (fun c409 => ?_)
  · skip
    refine V_reg T.mix (by kernel_rfl) ?_
    refine S_mv rfl ?_
    refine S_mv rfl ?_
    refine S_nc rfl ?_
    first | refine S_fa0 T.f40_4 rfl ?_ | refine S_fa T.f40_4 rfl ?_
    refine S_ldK T.ag9 rfl (fun K' hK' => ?_)
    simp (disch := omega) only [d0, d1, d2, d3, d4, d5, d6, d7, d8, o0_, o4_, oP_some, Nat.add_zero]
    refine hK' _ ?_; clear hK' K'
    first | refine S_fa0 T.f44_4 rfl ?_ | refine S_fa T.f44_4 rfl ?_
    refine S_ldK T.ag9 rfl (fun K' hK' => ?_)
    simp (disch := omega) only [d0, d1, d2, d3, d4, d5, d6, d7, d8, o0_, o4_, oP_some, Nat.add_zero]
    refine hK' _ ?_; clear hK' K'
    refine S_call T.hb17 rfl ?_
    refine FC.mono (ChkW.join_spec h1 txt os (by first | omega | decide)) ?_
    rintro v' h' ⟨⟨tx, rfl, htx2⟩, rfl⟩
    refine S_nc rfl ?_
    first | refine S_fa0 T.f40_4 rfl ?_ | refine S_fa T.f40_4 rfl ?_
    refine S_st T.sz9 rfl rfl rfl rfl (by simp (disch := omega) only [dok]) ?_
    generalize hh : putH _ _ _ = h2
    have hD2 : B h2 c.D (wcs c tx ma mine.length mc) 40 := by rw [← hh]; exact (w1.dd.put 7 _).cong (by simp [wcs])
    have hE2 : Ext (fun z => z = c.D) h1 h2 := by rw [← hh]; exact Ext.put _ _ rfl
    clear hh
    have w2 := w1.desk hE2 hD2
    refine S_nilk [] (by simp only [proj, lk, reduceIte, Nat.reduceEqDiff]; rfl) ?_
    refine hK2 _ _ ?_; clear hK2
    refine V_sr T.mix (by kernel_rfl) (fun K5 hK5 => ?_)
    refine S_as rfl ?_
    refine S_nil (hK5 _ _ (V_keep [4] (by simp only [proj, lk, reduceIte, Nat.reduceEqDiff]; rfl) ?_)); clear hK5
    refine V_ret ?_
    refine hR _ _ (ret1 rfl rfl ?_)
    exact ⟨rfl, la, lc, Q, W, cl, s, p, pa, pc, tx, ma, mc, mine, w2, by omega, by omega, (hEh1.mono fun _ f => f.elim).trans (hE2.mono fun z e => by omega)⟩
  · skip
    refine V_sr T.mix (by kernel_rfl) (fun K6 hK6 => ?_)
    refine S_bin rfl rfl rfl ?_
    refine S_as rfl ?_
    refine S_nil (hK6 _ _ (V_keep [0, 3, 8, 21] (by simp only [proj, lk, reduceIte, Nat.reduceEqDiff]; rfl) ?_)); clear hK6
    refine V_condp rfl (fun c411 => ?_) (fun c411 => ?_)
    · skip
      refine V_sr T.mix (by kernel_rfl) (fun K7 hK7 => ?_)
      first | refine S_fa0 T.f44_4 rfl ?_ | refine S_fa T.f44_4 rfl ?_
      refine S_ldK T.ag9 rfl (fun K' hK' => ?_)
      simp (disch := omega) only [d0, d1, d2, d3, d4, d5, d6, d7, d8, o0_, o4_, oP_some, Nat.add_zero]
      refine hK' _ ?_; clear hK' K'
      refine S_call T.hb17 rfl ?_
      refine FC.mono (ChkW.join_spec h1 ⟨#[]⟩ os (by first | omega | decide)) ?_
      rintro v' h' ⟨⟨tx, rfl, htx2⟩, rfl⟩
      refine S_as rfl ?_
      refine S_nil (hK7 _ _ (V_keep [0, 5] (by simp only [proj, lk, reduceIte, Nat.reduceEqDiff]; rfl) ?_)); clear hK7
      refine V_regBc 5 (e := 5) (by kernel_rfl) rfl (by kernel_rfl) (by kernel_rfl) (by kernel_rfl) ?_
      refine S_mv rfl ?_
      refine S_nc rfl ?_
      first | refine S_fa0 T.f40_0 rfl ?_ | refine S_fa T.f40_0 rfl ?_
      refine S_ldnK T.ag34 rfl (fun K' hK' => ?_)
      simp (disch := omega) only [d0, d1, d2, d3, d4, d5, d6, d7, d8, o0_, o4_, oPs_cons, oPs_nil, oP_some, Nat.reduceAdd, Nat.add_zero]
      refine hK' _ ?_; clear hK' K'
      refine S_mv rfl ?_
      refine S_nil ?_
      refine SB_at rfl (fun bcap bob => ?_)
      have hEb : Ext (fun _ => False) h1 (h1.push bob) := Ext.push _ _ _
      generalize h1.push bob = hb at hEb ⊢
      have wb := w1.new hEb
      refine S_call T.hb18 rfl ?_
      refine FC.mono (tape_spec hb c.P c.X c.C c.K _) ?_
      rintro v' h2 ⟨rfl, hE2⟩
      refine S_nilk [] (by simp only [proj, lk, reduceIte, Nat.reduceEqDiff]; rfl) ?_
      refine hK2 _ _ ?_; clear hK2
      refine V_sr T.mix (by kernel_rfl) (fun K8 hK8 => ?_)
      refine S_as rfl ?_
      refine S_nil (hK8 _ _ (V_keep [4] (by simp only [proj, lk, reduceIte, Nat.reduceEqDiff]; rfl) ?_)); clear hK8
      refine V_ret ?_
      refine hR _ _ (ret1 rfl rfl ?_)
      exact ⟨rfl, la, lc, Q, W, cl, s, p, pa, pc, txt, ma, mc, mine, wb.new hE2, htx, by omega, ((hEh1.mono fun _ f => f.elim).trans (hEb.mono fun _ f => f.elim)).trans (hE2.mono fun _ f => f.elim)⟩
    · skip
      refine V_sr T.mix (by kernel_rfl) (fun K9 hK9 => ?_)
      refine S_bin rfl rfl rfl ?_
      refine S_as rfl ?_
      refine S_nil (hK9 _ _ (V_keep [0, 3, 8, 33] (by simp only [proj, lk, reduceIte, Nat.reduceEqDiff]; rfl) ?_)); clear hK9
      refine V_condp rfl (fun c414 => ?_) (fun c414 => ?_)
      · skip
        refine V_sr T.mix (by kernel_rfl) (fun K10 hK10 => ?_)
        refine S_mv rfl ?_
        refine S_nc rfl ?_
        first | refine S_fa0 T.f40_4 rfl ?_ | refine S_fa T.f40_4 rfl ?_
        refine S_ldK T.ag9 rfl (fun K' hK' => ?_)
        simp (disch := omega) only [d0, d1, d2, d3, d4, d5, d6, d7, d8, o0_, o4_, oP_some, Nat.add_zero]
        refine hK' _ ?_; clear hK' K'
        first | refine S_fa0 T.f44_4 rfl ?_ | refine S_fa T.f44_4 rfl ?_
        refine S_ldK T.ag9 rfl (fun K' hK' => ?_)
        simp (disch := omega) only [d0, d1, d2, d3, d4, d5, d6, d7, d8, o0_, o4_, oP_some, Nat.add_zero]
        refine hK' _ ?_; clear hK' K'
        refine S_call T.hb17 rfl ?_
        refine FC.mono (ChkW.join_spec h1 txt os (by first | omega | decide)) ?_
        rintro v' h' ⟨⟨tx, rfl, htx2⟩, rfl⟩
        refine S_as rfl ?_
        refine S_nil (hK10 _ _ (V_keep [0, 6] (by simp only [proj, lk, reduceIte, Nat.reduceEqDiff]; rfl) ?_)); clear hK10
        refine V_sr T.mix (by kernel_rfl) (fun K11 hK11 => ?_)
        refine S_mv rfl ?_
        refine S_nc rfl ?_
        first | refine S_fa0 T.f40_4 rfl ?_ | refine S_fa T.f40_4 rfl ?_
        refine S_st T.sz9 rfl rfl rfl rfl (by simp (disch := omega) only [dok]) ?_
        generalize hh : putH _ _ _ = h2
        have hD2 : B h2 c.D (wcs c ⟨#[]⟩ ma mine.length mc) 40 := by rw [← hh]; exact (w1.dd.put 7 _).cong (by simp [wcs])
        have hE2 : Ext (fun z => z = c.D) h1 h2 := by rw [← hh]; exact Ext.put _ _ rfl
        clear hh
        have w2 := w1.desk hE2 hD2
        refine S_nil (hK11 _ _ (V_keep [0, 6] (by simp only [proj, lk, reduceIte, Nat.reduceEqDiff]; rfl) ?_)); clear hK11
        refine V_sr T.mix (by kernel_rfl) (fun K12 hK12 => ?_)
        refine S_mv rfl ?_
        refine S_mv rfl ?_
        refine S_call T.hb19 rfl ?_
        refine FC.mono (wsolve_spec h2 c la lc Q W cl s p pa pc ⟨#[]⟩ ma mc mine w2 tx hp) ?_
        rintro v' h3 ⟨rfl, la3, lc3, Q3, W3, cl3, s3, p3, pa3, pc3, ma3, mc3, mine3, w3, hp3, hE3⟩
        refine S_as rfl ?_
        refine S_nil (hK12 _ _ (V_keep [4] (by simp only [proj, lk, reduceIte, Nat.reduceEqDiff]; rfl) ?_)); clear hK12
        refine V_ret ?_
        refine hR _ _ (ret1 rfl rfl ?_)
        exact ⟨rfl, la3, lc3, Q3, W3, cl3, s3, p3, pa3, pc3, ⟨#[]⟩, ma3, mc3, mine3, w3, by decide, hp3, ((hEh1.mono fun _ f => f.elim).trans (hE2.mono fun z e => by omega)).trans hE3⟩
      · skip
        refine V_sr T.mix (by kernel_rfl) (fun K13 hK13 => ?_)
        refine S_bin rfl rfl rfl ?_
        refine S_as rfl ?_
        refine S_nil (hK13 _ _ (V_keep [0, 48] (by simp only [proj, lk, reduceIte, Nat.reduceEqDiff]; rfl) ?_)); clear hK13
        refine V_condp rfl (fun c418 => ?_) (fun c418 => ?_)
        · skip
          refine V_sr T.mix (by kernel_rfl) (fun K14 hK14 => ?_)
          refine S_mv rfl ?_
          refine S_nc rfl ?_
          first | refine S_fa0 T.f40_1 rfl ?_ | refine S_fa T.f40_1 rfl ?_
          refine S_ldK T.ag35 rfl (fun K' hK' => ?_)
          simp (disch := omega) only [d0, d1, d2, d3, d4, d5, d6, d7, d8, o0_, o4_, oP_some, Nat.add_zero]
          refine hK' _ ?_; clear hK' K'
          refine S_call T.hb8 rfl ?_
          refine FC.mono (xcheck_spec h1 c.V c.P c.X c.C c.K la lc Q W cl s p w1.gs.sx w1.gs.qi.ai w1.gs.qi.al w1.gs.qi.r4 w1.gs.qi.sf w1.gs.qi.cf w1.gs.qi.ns) ?_
          rintro v' h3 ⟨rfl, hE3⟩
          refine S_as rfl ?_
          refine S_nil (hK14 _ _ (V_keep [4] (by simp only [proj, lk, reduceIte, Nat.reduceEqDiff]; rfl) ?_)); clear hK14
          refine V_ret ?_
          refine hR _ _ (ret1 rfl rfl ?_)
          exact ⟨rfl, la, lc, Q, W, cl, s, p, pa, pc, txt, ma, mc, mine, w1.new hE3, htx, by omega, (hEh1.mono fun _ f => f.elim).trans (hE3.mono fun _ f => f.elim)⟩
        · skip
          refine V_skipk [] (by simp only [proj, lk, reduceIte, Nat.reduceEqDiff]; rfl) ?_
          refine hK2 _ _ ?_; clear hK2
          refine V_sr T.mix (by kernel_rfl) (fun K15 hK15 => ?_)
          refine S_as rfl ?_
          refine S_nil (hK15 _ _ (V_keep [4] (by simp only [proj, lk, reduceIte, Nat.reduceEqDiff]; rfl) ?_)); clear hK15
          refine V_ret ?_
          refine hR _ _ (ret1 rfl rfl ?_)
          exact ⟨rfl, la, lc, Q, W, cl, s, p, pa, pc, txt, ma, mc, mine, w1, htx, by omega, hEh1.mono fun _ f => f.elim⟩
set_option maxHeartbeats 400000 in
theorem ground_spec (h : Heap) :
    FC Tryz.prog 11 (#[] : Array Value) h fun v h' => ∃ P X C K, v = .agg #[.pointer (some ⟨P, 0, none⟩), .pointer (some ⟨X, 0, none⟩), .pointer (some ⟨C, 0, none⟩), .pointer (some ⟨K, 0, none⟩)] ∧ ChkW.Par h' P none 0 Go.Cnf.p0 ∧ RS h' X ⟨[], 0, 0⟩ 0 ∧ WB h' C X WZ0 ∧ LB h' K C X LS.z 0 ∧ h.size ≤ P ∧ P < X ∧ X < C ∧ C < K ∧ K < h'.size ∧ Ext (fun _ => False) h h' := by
  refine FC_of [] Tryz.func11 rfl Tryz.ntmps11 (by simp) rfl (fun R hR => ?_)
  refine V_sr T.mix (by kernel_rfl) (fun K1 hK1 => ?_)
  refine S_allocA T.z34 ?_
  generalize hh : Array.push h _ = h1
  have hR0 : B h1 h.size #[.pointer none, .pointer none, .pointer none, .pointer none] 34 := by rw [← hh]; exact B.new _ _ _
  have hEh1 : Ext (fun _ => False) h h1 := by rw [← hh]; exact Ext.push _ _ _
  have hsh1 : h1.size = h.size + 1 := by rw [← hh]; simp
  clear hh
  refine S_nil (hK1 _ _ (V_keep [0] (by simp only [proj, lk, reduceIte, Nat.reduceEqDiff]; rfl) ?_)); clear hK1
  refine V_sr T.mix (by kernel_rfl) (fun K2 hK2 => ?_)
  refine S_call T.hb20 rfl ?_
  refine FC.mono (ChkW.new_spec h1) ?_
  rintro v' h2 ⟨rfl, hpar, hE2⟩
  have hPl := hpar.s.lt
  refine S_as rfl ?_
  refine S_nil (hK2 _ _ (V_keep [0, 1] (by simp only [proj, lk, reduceIte, Nat.reduceEqDiff]; rfl) ?_)); clear hK2
  refine V_sr T.mix (by kernel_rfl) (fun K3 hK3 => ?_)
  refine S_call T.hb21 rfl ?_
  refine FC.mono (new_spec h2) ?_
  rintro v' h3 ⟨rfl, hrs, hE3⟩
  have hXl := hrs.lt
  refine S_as rfl ?_
  refine S_nil (hK3 _ _ (V_keep [0, 1, 2] (by simp only [proj, lk, reduceIte, Nat.reduceEqDiff]; rfl) ?_)); clear hK3
  refine V_sr T.mix (by kernel_rfl) (fun K4 hK4 => ?_)
  refine S_mv rfl ?_
  refine S_call T.hb22 rfl ?_
  refine FC.mono (wnew_spec h3 h2.size) ?_
  rintro v' h4 ⟨rfl, hwb, hE4⟩
  have hCl := hwb.lt
  refine S_as rfl ?_
  refine S_nil (hK4 _ _ (V_keep [0, 1, 2, 3] (by simp only [proj, lk, reduceIte, Nat.reduceEqDiff]; rfl) ?_)); clear hK4
  refine V_sr T.mix (by kernel_rfl) (fun K5 hK5 => ?_)
  refine S_mv rfl ?_
  refine S_mv rfl ?_
  refine S_call T.hb23 rfl ?_
  refine FC.mono (lnew_spec h4 h2.size h3.size) ?_
  rintro v' h5 ⟨rfl, hlb, hE5⟩
  have hKl := hlb.lt
  have hR5 := (((hR0.ext hE2 (fun f => f)).ext hE3 (fun f => f)).ext hE4 (fun f => f)).ext hE5 (fun f => f)
  have hokR : ∀ j, j < 4 → okPut h5 ⟨h.size, j, none⟩ = true := fun j hj => hR5.ok (by simpa using hj)
  refine S_as rfl ?_
  refine S_nil (hK5 _ _ (V_keep [0, 1, 2, 3, 4] (by simp only [proj, lk, reduceIte, Nat.reduceEqDiff]; rfl) ?_)); clear hK5
  refine V_sr T.mix (by kernel_rfl) (fun K6 hK6 => ?_)
  refine S_mv rfl ?_
  refine S_mv rfl ?_
  refine S_mv rfl ?_
  refine S_mv rfl ?_
  refine S_bld rfl (T.bld34_0_1_2_3 _ _ _ _) ?_
  refine S_stl T.sz34 rfl rfl rfl rfl (fun j hj => by simp (disch := omega) only [hokR]) ?_
  generalize hh : putsH _ _ _ _ = h6
  have hR6 : B h6 (h.size) #[.pointer (some ⟨h1.size, 0, none⟩), .pointer (some ⟨h2.size, 0, none⟩), .pointer (some ⟨h3.size, 0, none⟩), .pointer (some ⟨h4.size, 0, none⟩)] 34 := by rw [← hh]; exact B.puts_all (hR5) (cs' := #[.pointer (some ⟨h1.size, 0, none⟩), .pointer (some ⟨h2.size, 0, none⟩), .pointer (some ⟨h3.size, 0, none⟩), .pointer (some ⟨h4.size, 0, none⟩)]) rfl
  have hEh6 : Ext (fun k => k = h.size) h5 h6 := by rw [← hh]; exact Ext.puts (S := fun k => k = h.size) rfl _ _ _
  clear hh
  have hz6 := hEh6.1
  refine S_nil (hK6 _ _ (V_keep [0] (by simp only [proj, lk, reduceIte, Nat.reduceEqDiff]; rfl) ?_)); clear hK6
  refine V_ret ?_
  refine hR _ _ (retc1 rfl rfl T.ag34 hR6 (by rfl) ?_)
  exact ⟨h1.size, h2.size, h3.size, h4.size, rfl, (((hpar.ext hE3 (fun f => f) (fun _ _ f => f)).ext hE4 (fun f => f) (fun _ _ f => f)).ext hE5 (fun f => f) (fun _ _ f => f)).ext hEh6 (fun e => by omega) (fun b e => by simp [blkA] at e), ((hrs.ext hE4 (fun f => f)).ext hE5 (fun f => f)).ext hEh6 (fun e => by omega), (hwb.ext hE5 (fun f => f)).ext hEh6 (fun e => by omega), hlb.ext hEh6 (fun e => by omega), by omega, by omega, by omega, by omega, by omega, ((((hEh1.trans hE2).trans hE3).trans hE4).trans hE5).step hEh6 (fun b hb e => by omega)⟩
set_option maxHeartbeats 400000 in
theorem snew2_spec (h : Heap) :
    FC Tryz.prog 13 (#[] : Array Value) h fun rv h' => ∃ M Sv : Nat, rv = .pointer (some ⟨Sv, 0, none⟩) ∧ B h' Sv #[.pointer (some ⟨M, 0, none⟩)] 70 ∧ B h' M #[.int .i64 0, .int .i64 0] 109 ∧ h.size ≤ M ∧ M < Sv ∧ Sv < h'.size ∧ Ext (fun _ => False) h h' := by
  refine FC_of [] Tryz.func13 rfl Tryz.ntmps13 (by simp) rfl (fun R hR => ?_)
  refine V_sr T.mix (by kernel_rfl) (fun K1 hK1 => ?_)
  refine S_as rfl ?_
  refine S_nil (hK1 _ _ (V_keep [] (by simp only [proj, lk, reduceIte, Nat.reduceEqDiff]; rfl) ?_)); clear hK1
  refine V_sr T.mix (by kernel_rfl) (fun K2 hK2 => ?_)
  refine S_call T.hb24 rfl ?_
  refine FC.mono (ChkW.mnew_spec h) ?_
  rintro v' h1 ⟨rfl, hM1, hE1⟩
  have hMl := hM1.lt
  refine S_as rfl ?_
  refine S_nil (hK2 _ _ (V_keep [1] (by simp only [proj, lk, reduceIte, Nat.reduceEqDiff]; rfl) ?_)); clear hK2
  refine V_sr T.mix (by kernel_rfl) (fun K3 hK3 => ?_)
  refine S_mv rfl ?_
  refine S_bld rfl (T.bld70_0 _) ?_
  refine S_boxA rfl ?_
  refine S_as rfl ?_
  refine S_nil (hK3 _ _ (V_keep [0] (by simp only [proj, lk, reduceIte, Nat.reduceEqDiff]; rfl) ?_)); clear hK3
  refine V_ret ?_
  refine hR _ _ (ret1 rfl rfl ?_)
  exact ⟨h.size, h1.size, rfl, B.new _ _ _, hM1.push _, Nat.le_refl _, by omega, by simp, hE1.trans (Ext.push _ _ _)⟩
set_option maxHeartbeats 400000 in
theorem judge2_spec (h : Heap) :
    FC Tryz.prog 14 (#[] : Array Value) h fun rv h' => ∃ KC M, rv = .pointer (some ⟨KC, 0, none⟩) ∧ ChkW.KM h' KC M ∧ h.size ≤ M ∧ M < KC ∧ KC < h'.size ∧ Ext (fun _ => False) h h' := by
  refine FC_of [] Tryz.func14 rfl Tryz.ntmps14 (by simp) rfl (fun R hR => ?_)
  refine V_sr T.mix (by kernel_rfl) (fun K1 hK1 => ?_)
  refine S_as rfl ?_
  refine S_nil (hK1 _ _ (V_keep [] (by simp only [proj, lk, reduceIte, Nat.reduceEqDiff]; rfl) ?_)); clear hK1
  refine V_sr T.mix (by kernel_rfl) (fun K2 hK2 => ?_)
  refine S_call T.hb24 rfl ?_
  refine FC.mono (ChkW.mnew_spec h) ?_
  rintro v' h2 ⟨rfl, hM2, hE2⟩
  have hs2 := hE2.1
  have hMl := hM2.lt
  refine S_as rfl ?_
  refine S_nil (hK2 _ _ (V_keep [1] (by simp only [proj, lk, reduceIte, Nat.reduceEqDiff]; rfl) ?_)); clear hK2
  refine V_sr T.mix (by kernel_rfl) (fun K3 hK3 => ?_)
  refine S_mv rfl ?_
  refine S_call T.hb25 rfl ?_
  refine FC.mono (ChkW.mcnew_spec h2 h.size) ?_
  rintro v' h3 ⟨rfl, hKc, hE3⟩
  have hKl := hKc.lt
  refine S_as rfl ?_
  refine S_nil (hK3 _ _ (V_keep [0] (by simp only [proj, lk, reduceIte, Nat.reduceEqDiff]; rfl) ?_)); clear hK3
  refine V_ret ?_
  refine hR _ _ (ret1 rfl rfl ?_)
  exact ⟨h2.size, h.size, rfl, ⟨hKc, ⟨0, 0, hM2.ext hE3 (fun f => f)⟩, by omega⟩, by omega, by omega, by omega, hE2.trans hE3⟩
set_option maxHeartbeats 1600000 in
theorem start_spec (h : Heap) :
    FC Tryz.prog 7 (#[] : Array Value) h fun v h' => ∃ c : CF, c.base = h.size ∧ v = .pointer (some ⟨c.D, 0, none⟩) ∧ LWE h' c 0 ∧ Ext (fun _ => False) h h' := by
  obtain ⟨b0, b1, b2, b3⟩ : True ∧ True ∧ True ∧ True := ⟨trivial, trivial, trivial, trivial⟩
  refine FC_of [] Tryz.func7 rfl Tryz.ntmps7 (by simp) rfl (fun R hR => ?_)
  refine V_sr T.mix (by kernel_rfl) (fun K1 hK1 => ?_)
  refine S_as rfl ?_
  refine S_nil (hK1 _ _ (V_keep [] (by simp only [proj, lk, reduceIte, Nat.reduceEqDiff]; rfl) ?_)); clear hK1
  refine V_sr T.mix (by kernel_rfl) (fun K2 hK2 => ?_)
  refine S_call T.hb11 rfl ?_
  refine FC.mono (ground_spec h) ?_
  rintro v' h1 ⟨P, X, C, K, rfl, hpar, hrs, hwb, hlb, g1, g2, g3, g4, g5, hE1⟩
  refine S_allocA T.z34 ?_
  generalize hh : Array.push h1 _ = h2
  have hB2 : B h2 h1.size #[.pointer none, .pointer none, .pointer none, .pointer none] 34 := by rw [← hh]; exact B.new _ _ _
  have hEh2 : Ext (fun _ => False) h1 h2 := by rw [← hh]; exact Ext.push _ _ _
  have hsh2 : h2.size = h1.size + 1 := by rw [← hh]; simp
  clear hh
  have hokB : ∀ j, j < 4 → okPut h2 ⟨h1.size, j, none⟩ = true := fun j hj => hB2.ok (by simpa using hj)
  refine S_stl T.sz34 rfl rfl rfl rfl (fun j hj => by simp (disch := omega) only [hokB]) ?_
  generalize hh : putsH _ _ _ _ = h3
  have hB3 : B h3 (h1.size) #[.pointer (some ⟨P, 0, none⟩), .pointer (some ⟨X, 0, none⟩), .pointer (some ⟨C, 0, none⟩), .pointer (some ⟨K, 0, none⟩)] 34 := by rw [← hh]; exact B.puts_all (hB2) (cs' := #[.pointer (some ⟨P, 0, none⟩), .pointer (some ⟨X, 0, none⟩), .pointer (some ⟨C, 0, none⟩), .pointer (some ⟨K, 0, none⟩)]) rfl
  have hEh3 : Ext (fun k => k = h1.size) h2 h3 := by rw [← hh]; exact Ext.puts (S := fun k => k = h1.size) rfl _ _ _
  clear hh
  have hE13 : Ext (fun _ => False) h1 h3 := hEh2.step hEh3 (fun z hz e => by omega)
  have hs3 := hE13.1
  have hokB := True.intro
  try clear b0 b1 b2 b3 b4
  obtain ⟨b0, b1, b2, b3, b4⟩ := bq4 (hB3)
  refine S_nil (hK2 _ _ (V_keep [1] (by simp only [proj, lk, reduceIte, Nat.reduceEqDiff]; rfl) ?_)); clear hK2
  refine V_sr T.mix (by kernel_rfl) (fun K3 hK3 => ?_)
  first | refine S_fa0 T.f34_0 rfl ?_ | refine S_fa T.f34_0 rfl ?_
  refine S_ldK T.ag29 rfl (fun K' hK' => ?_)
  simp (disch := omega) only [b0, b1, b2, b3, oP_some, Nat.add_zero]
  refine hK' _ ?_; clear hK' K'
  first | refine S_fa0 T.f34_1 rfl ?_ | refine S_fa T.f34_1 rfl ?_
  refine S_ldK T.ag30 rfl (fun K' hK' => ?_)
  simp (disch := omega) only [b0, b1, b2, b3, oP_some, Nat.add_zero]
  refine hK' _ ?_; clear hK' K'
  first | refine S_fa0 T.f34_2 rfl ?_ | refine S_fa T.f34_2 rfl ?_
  refine S_ldK T.ag31 rfl (fun K' hK' => ?_)
  simp (disch := omega) only [b0, b1, b2, b3, oP_some, Nat.add_zero]
  refine hK' _ ?_; clear hK' K'
  first | refine S_fa0 T.f34_3 rfl ?_ | refine S_fa T.f34_3 rfl ?_
  refine S_ldK T.ag32 rfl (fun K' hK' => ?_)
  simp (disch := omega) only [b0, b1, b2, b3, oP_some, Nat.add_zero]
  refine hK' _ ?_; clear hK' K'
  refine S_call T.hb12 rfl ?_
  refine FC.mono (xnew_spec h3 P X C K) ?_
  rintro v' h4 ⟨rfl, F, hsb, hF, hE4⟩
  have hVl := hsb.lt
  try clear b0 b1 b2 b3 b4
  obtain ⟨b0, b1, b2, b3, b4⟩ := bq4 (hB3.ext hE4 (fun f => f))
  refine S_as rfl ?_
  refine S_nil (hK3 _ _ (V_keep [1, 2] (by simp only [proj, lk, reduceIte, Nat.reduceEqDiff]; rfl) ?_)); clear hK3
  refine V_sr T.mix (by kernel_rfl) (fun K4 hK4 => ?_)
  refine S_call T.hb13 rfl ?_
  refine FC.mono (snew2_spec h4) ?_
  rintro v' h5 ⟨M, Sv, rfl, hSv, hM, k1, k2, k3, hE5⟩
  try clear b0 b1 b2 b3 b4
  obtain ⟨b0, b1, b2, b3, b4⟩ := bq4 ((hB3.ext hE4 (fun f => f)).ext hE5 (fun f => f))
  refine S_as rfl ?_
  refine S_nil (hK4 _ _ (V_keep [1, 2, 3] (by simp only [proj, lk, reduceIte, Nat.reduceEqDiff]; rfl) ?_)); clear hK4
  refine V_sr T.mix (by kernel_rfl) (fun K5 hK5 => ?_)
  refine S_call T.hb14 rfl ?_
  refine FC.mono (judge2_spec h5) ?_
  rintro v' h6 ⟨KC, N, rfl, hkm, j1, j2, j3, hE6⟩
  try clear b0 b1 b2 b3 b4
  obtain ⟨b0, b1, b2, b3, b4⟩ := bq4 (((hB3.ext hE4 (fun f => f)).ext hE5 (fun f => f)).ext hE6 (fun f => f))
  refine S_as rfl ?_
  refine S_nil (hK5 _ _ (V_keep [1, 2, 3, 4] (by simp only [proj, lk, reduceIte, Nat.reduceEqDiff]; rfl) ?_)); clear hK5
  refine V_sr T.mix (by kernel_rfl) (fun K6 hK6 => ?_)
  refine S_ldnK T.ag34 rfl (fun K' hK' => ?_)
  simp (disch := omega) only [b0, b1, b2, b3, oPs_cons, oPs_nil, oP_some, Nat.reduceAdd, Nat.add_zero]
  refine hK' _ ?_; clear hK' K'
  refine S_mv rfl ?_
  refine S_mv rfl ?_
  refine S_mv rfl ?_
  refine S_bld rfl (T.bld40_0_1_2_3 _ _ _ _ _ _ _) ?_
  refine S_boxA rfl ?_
  generalize hh : Array.push h6 _ = h7
  have hW7 : B h7 h6.size #[.pointer (some ⟨P, 0, none⟩), .pointer (some ⟨X, 0, none⟩), .pointer (some ⟨C, 0, none⟩), .pointer (some ⟨K, 0, none⟩), .pointer (some ⟨h3.size, 0, none⟩), .pointer (some ⟨Sv, 0, none⟩), .pointer (some ⟨KC, 0, none⟩), .string ⟨#[]⟩, .slice none 0 0] 40 := by rw [← hh]; exact B.new _ _ _
  have hEh7 : Ext (fun _ => False) h6 h7 := by rw [← hh]; exact Ext.push _ _ _
  have hsh7 : h7.size = h6.size + 1 := by rw [← hh]; simp
  clear hh
  refine S_as rfl ?_
  refine S_nil (hK6 _ _ (V_keep [0] (by simp only [proj, lk, reduceIte, Nat.reduceEqDiff]; rfl) ?_)); clear hK6
  refine V_ret ?_
  refine hR _ _ (ret1 rfl rfl ?_)
  have hs4 := hE4.1
  have hE37 : Ext (fun _ => False) h3 h7 := ((hE4.trans hE5).trans hE6).trans hEh7
  have hE17 := hE13.trans hE37
  have hE47 : Ext (fun _ => False) h4 h7 := (hE5.trans hE6).trans hEh7
  have hE57 := hE6.trans hEh7
  have hlw := first (h := h7) (c := ⟨h6.size, h3.size, P, X, C, K, Sv, M, KC, N, h.size⟩) (F := F) ⟨⟨g1, g2, g3, g4, by dsimp only; omega, by dsimp only; omega, k2, by dsimp only; omega, j2, by dsimp only; omega⟩⟩ hW7 (hsb.ext hE47 (fun f => f)) hF (hpar.ext hE17 (fun f => f) (fun _ _ f => f)) (hrs.ext hE17 (fun f => f)) (hwb.ext hE17 (fun f => f)) (hlb.ext hE17 (fun f => f)) (hSv.ext hE57 (fun f => f)) ⟨0, 0, hM.ext hE57 (fun f => f)⟩ (hkm.ext hEh7 (fun f => f) (fun f => f))
  exact ⟨_, rfl, rfl, ⟨_, _, _, _, _, _, _, _, _, _, _, _, _, hlw, by decide, Nat.le_refl _⟩, hE1.trans hE17⟩
set_option maxHeartbeats 3200000 in
theorem walk_spec (h : Heap) (sa : Option Addr) (n cap : Nat) (q : Bool) (hs : Scr h.size h sa n) (hn : n ≤ 9223372036854775807) :
    FC Tryz.prog 6 (#[.slice sa n cap, .bool (decide (q = true))] : Array Value) h fun v h' => (∃ j : Int, v = .tuple #[.int .i64 (-1), .int .i64 j]) ∧ Ext (fun b => h.size ≤ b) h h' := by
  refine FC_of [(0, .slice sa n cap), (1, .bool (decide (q = true)))] Tryz.func6 rfl Tryz.ntmps6 (by simp) rfl (fun R hR => ?_)
  refine V_sr T.mix (by kernel_rfl) (fun K1 hK1 => ?_)
  refine S_as rfl ?_
  refine S_as rfl ?_
  refine S_nil (hK1 _ _ (V_keep [0, 1] (by simp only [proj, lk, reduceIte, Nat.reduceEqDiff]; rfl) ?_)); clear hK1
  refine V_sr T.mix (by kernel_rfl) (fun K2 hK2 => ?_)
  refine S_call T.hb7 rfl ?_
  refine FC.mono (start_spec h) ?_
  rintro v' h1 ⟨c, hcb, rfl, we1, hE1⟩
  have hE1b : Ext (fun b => h.size ≤ b) h h1 := hE1.mono fun _ f => f.elim
  have we1_ := we1
  obtain ⟨la, lc, Q, W, cl, s, p, pa, pc, txt, ma, mc, mine, w, htx, hpp⟩ := we1_
  try clear d0 d1 d2 d3 d4 d5 d6 d7 d8 dok
  obtain ⟨d0, d1, d2, d3, d4, d5, d6, d7, d8, dok⟩ := dq (w.dd)
  refine S_as rfl ?_
  refine S_nil (hK2 _ _ (V_keep [0, 1, 6] (by simp only [proj, lk, reduceIte, Nat.reduceEqDiff]; rfl) ?_)); clear hK2
  refine V_seqJ (fun l h' => ∃ (hj : Heap), (LWE hj c 0) ∧ (Ext (fun b => h.size ≤ b) h hj) ∧ l = [(0, .slice sa n cap), (1, .bool (decide (q = true))), (6, .pointer (some ⟨c.D, 0, none⟩))] ∧ hj = h') ?_ ?_
  · skip
    refine V_sr T.mix (by kernel_rfl) (fun K4 hK4 => ?_)
    refine S_mv rfl ?_
    refine S_not rfl ?_
    refine S_nil (hK4 _ _ (V_keep [0, 1, 6, 14] (by simp only [proj, lk, reduceIte, Nat.reduceEqDiff]; rfl) ?_)); clear hK4
    refine V_condp rfl (fun c428 => ?_) (fun c428 => ?_)
    · skip
      refine V_sr T.mix (by kernel_rfl) (fun K5 hK5 => ?_)
      refine S_mv rfl ?_
      refine S_nc rfl ?_
      first | refine S_fa0 T.f40_1 rfl ?_ | refine S_fa T.f40_1 rfl ?_
      refine S_ldK T.ag35 rfl (fun K' hK' => ?_)
      simp (disch := omega) only [d0, d1, d2, d3, d4, d5, d6, d7, d8, oP_some, Nat.add_zero]
      refine hK' _ ?_; clear hK' K'
      refine S_call T.hb8 rfl ?_
      refine FC.mono (xcheck_spec h1 c.V c.P c.X c.C c.K la lc Q W cl s p w.gs.sx w.gs.qi.ai w.gs.qi.al w.gs.qi.r4 w.gs.qi.sf w.gs.qi.cf w.gs.qi.ns) ?_
      rintro v' h2 ⟨rfl, hE2⟩
      refine S_as rfl ?_
      refine S_nil (hK5 _ _ (V_keep [0, 1, 6, 7] (by simp only [proj, lk, reduceIte, Nat.reduceEqDiff]; rfl) ?_)); clear hK5
      refine V_sr T.mix (by kernel_rfl) (fun K6 hK6 => ?_)
      refine S_mv rfl ?_
      refine S_notb rfl ?_
      refine S_nil (hK6 _ _ (V_keep [0, 1, 6, 21] (by simp only [proj, lk, reduceIte, Nat.reduceEqDiff]; rfl) ?_)); clear hK6
      refine V_condb rfl (fun c430 => ?_) (fun c430 => ?_)
      · skip
        cases c430
      · skip
        refine V_skipk [0, 1, 6] (by simp only [proj, lk, reduceIte, Nat.reduceEqDiff]; rfl) ?_
        exact ⟨h2, we1.new hE2, hE1b.trans (hE2.mono fun _ f => f.elim), rfl, rfl⟩
    · skip
      refine V_skipk [0, 1, 6] (by simp only [proj, lk, reduceIte, Nat.reduceEqDiff]; rfl) ?_
      exact ⟨h1, we1, hE1b, rfl, rfl⟩
  rintro l h' ⟨hj, wj, hEj, rfl, rfl⟩
  refine V_seq (fun K7 hK7 => ?_)
  refine V_sr T.mix (by kernel_rfl) (fun K8 hK8 => ?_)
  refine S_as rfl ?_
  refine S_nil (hK8 _ _ (V_keep [0, 1, 6, 8] (by simp only [proj, lk, reduceIte, Nat.reduceEqDiff]; rfl) ?_)); clear hK8
  refine V_block ?_
  refine V_loop (fun m l h' => ∃ (i : Nat) (hk : Heap), (i ≤ n) ∧ (i ≤ 4398046511104) ∧ (LWE hk c (100000 * i)) ∧ (Ext (fun b => h.size ≤ b) h hk) ∧ m = n - i ∧ l = [(0, .slice sa n cap), (1, .bool (decide (q = true))), (6, .pointer (some ⟨c.D, 0, none⟩)), (8, .int .i64 (i : Int))] ∧ hk = h') _ ⟨0, hj, by omega, by omega, wj, hEj, rfl, rfl, rfl⟩ ?_
  rintro m l h' ⟨i, hk, hi, hi2, we, hE, rfl, rfl, rfl⟩ K9 hK9
  have we_ := we
  clear w htx hpp
  obtain ⟨la, lc, Q, W, cl, s, p, pa, pc, txt, ma, mc, mine, w, htx, hpp⟩ := we_
  try clear d0 d1 d2 d3 d4 d5 d6 d7 d8 dok
  obtain ⟨d0, d1, d2, d3, d4, d5, d6, d7, d8, dok⟩ := dq (w.dd)
  refine V_seq (fun K10 hK10 => ?_)
  refine V_sr T.mix (by kernel_rfl) (fun K11 hK11 => ?_)
  refine S_cut (K' := fun l h' => ∃ b : Bool, (b = true ↔ (i < n ∧ i < 4398046511104)) ∧ l = [(0, .slice sa n cap), (1, .bool (decide (q = true))), (6, .pointer (some ⟨c.D, 0, none⟩)), (8, .int .i64 (i : Int)), (29, .bool b)] ∧ hk = h') ?_ ?_
  · skip
    refine S_mv rfl ?_
    refine S_mv rfl ?_
    refine S_lenl T.el22 rfl ?_
    refine S_bin rfl rfl rfl ?_
    refine S_mv rfl ?_
    refine S_dec (fun g434 => ?_) (fun g434 => ?_)
    · skip
      refine S_gt rfl ?_
      refine S_mv rfl ?_
      refine S_gt rfl ?_
      refine S_bin rfl rfl rfl ?_
      refine S_pt rfl rfl ?_
      exact S_nilk [0, 1, 6, 8, 29] (by simp only [proj, lk, reduceIte, Nat.reduceEqDiff]; rfl) ⟨_, (by first | (simp [*]; done) | (simp; omega)), rfl, rfl⟩
    · skip
      refine S_gf rfl ?_
      refine S_gf rfl ?_
      refine S_pf rfl rfl ?_
      exact S_nilk [0, 1, 6, 8, 29] (by simp only [proj, lk, reduceIte, Nat.reduceEqDiff]; rfl) ⟨_, (by first | (simp [*]; done) | (simp; omega)), rfl, rfl⟩
  rintro l h' ⟨b, hb434, rfl, rfl⟩
  refine hK11 _ _ ?_; clear hK11
  refine V_condb rfl (fun c434 => ?_) (fun c434 => ?_)
  · replace c434 := hb434.1 c434
    refine V_skipk [0, 1, 6, 8] (by simp only [proj, lk, reduceIte, Nat.reduceEqDiff]; rfl) ?_
    refine hK10 _ _ ?_; clear hK10
    refine V_seq (fun K13 hK13 => ?_)
    refine V_block ?_
    refine V_sr T.mix (by kernel_rfl) (fun K14 hK14 => ?_)
    refine S_mv rfl ?_
    refine S_mv rfl ?_
    refine S_mv rfl ?_
    obtain ⟨sb, so, rfl, hlt, k, oa, ob, oc, os, ot, hc⟩ := (hs.ext (Nat.le_refl _) hE) i (by exact c434.1)
    refine S_ix T.el22 rfl rfl (by omega) (by omega) ?_
    refine S_ldn T.ag44 rfl (by simpa using hc) ?_
    refine S_call T.hb9 rfl ?_
    refine FC.mono (play_spec hk c la lc Q W cl s p pa pc txt ma mc mine w k oa ob oc os ot htx (by omega)) ?_
    rintro v' h4 ⟨rfl, la4, lc4, Q4, W4, cl4, s4, p4, pa4, pc4, txt4, ma4, mc4, mine4, w4, htx4, hp4, hE4⟩
    have hE4b : Ext (fun b => h.size ≤ b) h h4 := hE.trans (by rw [hcb] at hE4; exact hE4)
    try clear d0 d1 d2 d3 d4 d5 d6 d7 d8 dok
    obtain ⟨d0, d1, d2, d3, d4, d5, d6, d7, d8, dok⟩ := dq (w4.dd)
    refine S_as rfl ?_
    refine S_nil (hK14 _ _ (V_keep [0, 1, 6, 8, 9] (by simp only [proj, lk, reduceIte, Nat.reduceEqDiff]; rfl) ?_)); clear hK14
    refine V_seq (fun K15 hK15 => ?_)
    refine V_sr T.mix (by kernel_rfl) (fun K16 hK16 => ?_)
    refine S_mv rfl ?_
    refine S_notb rfl ?_
    refine S_nil (hK16 _ _ (V_keep [0, 1, 6, 8, 39] (by simp only [proj, lk, reduceIte, Nat.reduceEqDiff]; rfl) ?_)); clear hK16
    refine V_condb rfl (fun c436 => ?_) (fun c436 => ?_)
    · skip
      cases c436
    · skip
      refine V_skipk [0, 1, 6, 8] (by simp only [proj, lk, reduceIte, Nat.reduceEqDiff]; rfl) ?_
      refine hK15 _ _ ?_; clear hK15
      refine V_seqJ (fun l h' => ∃ (h6 : Heap), (LW h6 c la4 lc4 Q4 W4 cl4 s4 p4 pa4 pc4 txt4 ma4 mc4 mine4) ∧ (Ext (fun b => h.size ≤ b) h h6) ∧ l = [(0, .slice (some ⟨sb, so, none⟩) n cap), (1, .bool (decide (q = true))), (6, .pointer (some ⟨c.D, 0, none⟩)), (8, .int .i64 (i : Int))] ∧ h6 = h') ?_ ?_
      · skip
        refine V_sr T.mix (by kernel_rfl) (fun K18 hK18 => ?_)
        refine S_mv rfl ?_
        refine S_not rfl ?_
        refine S_nil (hK18 _ _ (V_keep [0, 1, 6, 8, 43] (by simp only [proj, lk, reduceIte, Nat.reduceEqDiff]; rfl) ?_)); clear hK18
        refine V_condp rfl (fun c439 => ?_) (fun c439 => ?_)
        · skip
          refine V_sr T.mix (by kernel_rfl) (fun K19 hK19 => ?_)
          refine S_mv rfl ?_
          refine S_nc rfl ?_
          first | refine S_fa0 T.f40_1 rfl ?_ | refine S_fa T.f40_1 rfl ?_
          refine S_ldK T.ag35 rfl (fun K' hK' => ?_)
          simp (disch := omega) only [d0, d1, d2, d3, d4, d5, d6, d7, d8, oP_some, Nat.add_zero]
          refine hK' _ ?_; clear hK' K'
          refine S_call T.hb8 rfl ?_
          refine FC.mono (xcheck_spec h4 c.V c.P c.X c.C c.K la4 lc4 Q4 W4 cl4 s4 p4 w4.gs.sx w4.gs.qi.ai w4.gs.qi.al w4.gs.qi.r4 w4.gs.qi.sf w4.gs.qi.cf w4.gs.qi.ns) ?_
          rintro v' h5 ⟨rfl, hE5⟩
          refine S_as rfl ?_
          refine S_nil (hK19 _ _ (V_keep [0, 1, 6, 8, 10] (by simp only [proj, lk, reduceIte, Nat.reduceEqDiff]; rfl) ?_)); clear hK19
          refine V_sr T.mix (by kernel_rfl) (fun K20 hK20 => ?_)
          refine S_mv rfl ?_
          refine S_notb rfl ?_
          refine S_nil (hK20 _ _ (V_keep [0, 1, 6, 8, 50] (by simp only [proj, lk, reduceIte, Nat.reduceEqDiff]; rfl) ?_)); clear hK20
          refine V_condb rfl (fun c441 => ?_) (fun c441 => ?_)
          · skip
            cases c441
          · skip
            refine V_skipk [0, 1, 6, 8] (by simp only [proj, lk, reduceIte, Nat.reduceEqDiff]; rfl) ?_
            exact ⟨h5, w4.new hE5, hE4b.trans (hE5.mono fun _ f => f.elim), rfl, rfl⟩
        · skip
          refine V_skipk [0, 1, 6, 8] (by simp only [proj, lk, reduceIte, Nat.reduceEqDiff]; rfl) ?_
          exact ⟨h4, w4, hE4b, rfl, rfl⟩
      rintro l h' ⟨h6, w6, hE6, rfl, rfl⟩
      refine V_sr T.mix (by kernel_rfl) (fun K21 hK21 => ?_)
      refine S_mv rfl ?_
      refine S_call T.hb10 rfl ?_
      refine FC.mono (untouched_spec h6 c la4 lc4 Q4 W4 cl4 s4 p4 pa4 pc4 txt4 ma4 mc4 mine4 w6) ?_
      rintro v' h' ⟨rfl, rfl⟩
      refine S_as rfl ?_
      refine S_nil (hK21 _ _ (V_keep [0, 1, 6, 8, 11] (by simp only [proj, lk, reduceIte, Nat.reduceEqDiff]; rfl) ?_)); clear hK21
      refine V_sr T.mix (by kernel_rfl) (fun K22 hK22 => ?_)
      refine S_mv rfl ?_
      refine S_notb rfl ?_
      refine S_nil (hK22 _ _ (V_keep [0, 1, 6, 8, 56] (by simp only [proj, lk, reduceIte, Nat.reduceEqDiff]; rfl) ?_)); clear hK22
      refine V_condb rfl (fun c446 => ?_) (fun c446 => ?_)
      · skip
        cases c446
      · skip
        refine V_skipk [0, 1, 6, 8] (by simp only [proj, lk, reduceIte, Nat.reduceEqDiff]; rfl) ?_
        refine hK13 _ _ ?_; clear hK13
        refine V_reg T.mix (by kernel_rfl) ?_
        refine S_mv rfl ?_
        first | refine S_add rfl rfl (by omega) (by omega) ?_ | refine S_bin rfl rfl rfl ?_
        refine S_as rfl ?_
        refine S_nilk [0, 1, 6, 8] (by simp only [proj, lk, reduceIte, Nat.reduceEqDiff]; rfl) ?_
        exact hK9 _ _ ⟨_, by omega, i + 1, h6, by omega, by omega, ⟨_, _, _, _, _, _, _, _, _, _, _, _, _, w6, htx4, by omega⟩, hE6, rfl, rfl, rfl⟩
  · replace c434 : ¬ _ := fun hp => Bool.false_ne_true (c434.symm.trans (hb434.2 hp))
    refine V_exitk [0] rfl (by simp only [proj, lk, reduceIte, Nat.reduceEqDiff]; rfl) ?_
    refine hK7 _ _ ?_; clear hK7
    refine V_seq (fun K23 hK23 => ?_)
    refine V_sr T.mix (by kernel_rfl) (fun K24 hK24 => ?_)
    refine S_mv rfl ?_
    refine S_lenl T.el22 rfl ?_
    refine S_bin rfl rfl rfl ?_
    refine S_nil (hK24 _ _ (V_keep [0, 61] (by simp only [proj, lk, reduceIte, Nat.reduceEqDiff]; rfl) ?_)); clear hK24
    refine V_condp rfl (fun c450 => ?_) (fun c450 => ?_)
    · skip
      refine V_sr T.mix (by kernel_rfl) (fun K25 hK25 => ?_)
      refine S_mv rfl ?_
      refine S_lenl T.el22 rfl ?_
      refine S_as rfl ?_
      refine S_as rfl ?_
      refine S_nil (hK25 _ _ (V_keep [4, 5] (by simp only [proj, lk, reduceIte, Nat.reduceEqDiff]; rfl) ?_)); clear hK25
      refine V_ret ?_
      refine hR _ _ (ret2 rfl rfl rfl ?_)
      exact ⟨⟨_, rfl⟩, hE⟩
    · skip
      refine V_skipk [] (by simp only [proj, lk, reduceIte, Nat.reduceEqDiff]; rfl) ?_
      refine hK23 _ _ ?_; clear hK23
      refine V_sr T.mix (by kernel_rfl) (fun K26 hK26 => ?_)
      refine S_as rfl ?_
      refine S_as rfl ?_
      refine S_nil (hK26 _ _ (V_keep [4, 5] (by simp only [proj, lk, reduceIte, Nat.reduceEqDiff]; rfl) ?_)); clear hK26
      refine V_ret ?_
      refine hR _ _ (ret2 rfl rfl rfl ?_)
      exact ⟨⟨_, rfl⟩, hE⟩
set_option maxHeartbeats 400000 in
theorem rut_spec (h : Heap) (sa : Option Addr) (n cap : Nat) (hs : Scr h.size h sa n) (hn : n ≤ 9223372036854775807) :
    FC Tryz.prog 5 (#[.slice sa n cap] : Array Value) h fun v h' => v = .int .i64 (-1) ∧ Ext (fun b => h.size ≤ b) h h' := by
  refine FC_of [(0, .slice sa n cap)] Tryz.func5 rfl Tryz.ntmps5 (by simp) rfl (fun R hR => ?_)
  refine V_sr T.mix (by kernel_rfl) (fun K1 hK1 => ?_)
  refine S_as rfl ?_
  refine S_nil (hK1 _ _ (V_keep [0] (by simp only [proj, lk, reduceIte, Nat.reduceEqDiff]; rfl) ?_)); clear hK1
  refine V_sr T.mix (by kernel_rfl) (fun K2 hK2 => ?_)
  refine S_mv rfl ?_
  refine S_call T.hb6 rfl ?_
  refine FC.mono (walk_spec h sa n cap false hs hn) ?_
  rintro v h2 ⟨⟨j, rfl⟩, hE⟩
  refine S_mv rfl ?_
  refine S_ex rfl rfl ?_
  refine S_ex rfl rfl ?_
  refine S_as rfl ?_
  refine S_as rfl ?_
  refine S_nil (hK2 _ _ (V_keep [3] (by simp only [proj, lk, reduceIte, Nat.reduceEqDiff]; rfl) ?_)); clear hK2
  refine V_sr T.mix (by kernel_rfl) (fun K3 hK3 => ?_)
  refine S_mv rfl ?_
  refine S_as rfl ?_
  refine S_nil (hK3 _ _ (V_keep [2] (by simp only [proj, lk, reduceIte, Nat.reduceEqDiff]; rfl) ?_)); clear hK3
  refine V_ret ?_
  refine hR _ _ (ret1 rfl rfl ?_)
  exact ⟨rfl, hE⟩
set_option maxHeartbeats 400000 in
theorem ref_spec (h : Heap) (sa : Option Addr) (n cap : Nat) (hs : Scr h.size h sa n) (hn : n ≤ 9223372036854775807) :
    FC Tryz.prog 3 (#[.slice sa n cap] : Array Value) h fun v h' => v = .bool true ∧ Ext (fun b => h.size ≤ b) h h' := by
  refine FC_of [(0, .slice sa n cap)] Tryz.func3 rfl Tryz.ntmps3 (by simp) rfl (fun R hR => ?_)
  refine V_sr T.mix (by kernel_rfl) (fun K1 hK1 => ?_)
  refine S_as rfl ?_
  refine S_nil (hK1 _ _ (V_keep [0] (by simp only [proj, lk, reduceIte, Nat.reduceEqDiff]; rfl) ?_)); clear hK1
  refine V_sr T.mix (by kernel_rfl) (fun K2 hK2 => ?_)
  refine S_mv rfl ?_
  refine S_call T.hb5 rfl ?_
  refine FC.mono (rut_spec h sa n cap hs hn) ?_
  rintro v h2 ⟨rfl, hE⟩
  refine S_bin rfl rfl rfl ?_
  refine S_as rfl ?_
  refine S_nil (hK2 _ _ (V_keep [2] (by simp only [proj, lk, reduceIte, Nat.reduceEqDiff]; rfl) ?_)); clear hK2
  refine V_ret ?_
  refine hR _ _ (ret1 rfl rfl ?_)
  exact ⟨rfl, hE⟩
set_option maxHeartbeats 400000 in
theorem refq_spec (h : Heap) (sa : Option Addr) (n cap : Nat) (hs : Scr h.size h sa n) (hn : n ≤ 9223372036854775807) :
    FC Tryz.prog 4 (#[.slice sa n cap] : Array Value) h fun v h' => v = .bool true ∧ Ext (fun b => h.size ≤ b) h h' := by
  refine FC_of [(0, .slice sa n cap)] Tryz.func4 rfl Tryz.ntmps4 (by simp) rfl (fun R hR => ?_)
  refine V_sr T.mix (by kernel_rfl) (fun K1 hK1 => ?_)
  refine S_as rfl ?_
  refine S_nil (hK1 _ _ (V_keep [0] (by simp only [proj, lk, reduceIte, Nat.reduceEqDiff]; rfl) ?_)); clear hK1
  refine V_sr T.mix (by kernel_rfl) (fun K2 hK2 => ?_)
  refine S_mv rfl ?_
  refine S_call T.hb6 rfl ?_
  refine FC.mono (walk_spec h sa n cap true hs hn) ?_
  rintro v h2 ⟨⟨j, rfl⟩, hE⟩
  refine S_mv rfl ?_
  refine S_ex rfl rfl ?_
  refine S_ex rfl rfl ?_
  refine S_as rfl ?_
  refine S_as rfl ?_
  refine S_nil (hK2 _ _ (V_keep [3] (by simp only [proj, lk, reduceIte, Nat.reduceEqDiff]; rfl) ?_)); clear hK2
  refine V_sr T.mix (by kernel_rfl) (fun K3 hK3 => ?_)
  refine S_mv rfl ?_
  refine S_bin rfl rfl rfl ?_
  refine S_as rfl ?_
  refine S_nil (hK3 _ _ (V_keep [2] (by simp only [proj, lk, reduceIte, Nat.reduceEqDiff]; rfl) ?_)); clear hK3
  refine V_ret ?_
  refine hR _ _ (ret1 rfl rfl ?_)
  exact ⟨rfl, hE⟩
end Go.Proofs.Qxb6500401aGreat
