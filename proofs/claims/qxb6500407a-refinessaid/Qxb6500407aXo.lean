import Derived.Test.Qxb6500407aXn
set_option linter.unusedVariables false
set_option linter.unusedSimpArgs false
namespace Go.Proofs.Qxb6500407a
open Go.Eng Go.Huf

theorem oq {h : Heap} {b : Nat} {k oa ob oc : Int} {os ot : ByteArray} {t : TypeId} (hB : B h b #[.int .i64 k, .int .i64 oa, .int .i64 ob, .int .i64 oc, .string os, .string ot] t) : cellH h ⟨b, 0, none⟩ = some (.int .i64 k) ∧ cellH h ⟨b, 1, none⟩ = some (.int .i64 oa) ∧ cellH h ⟨b, 2, none⟩ = some (.int .i64 ob) := ⟨hB.cell 0, hB.cell 1, hB.cell 2⟩
section ui
variable {h : Heap} {tg : Nat → Nat} {A : UA} {u : US} {nb : Nat}
theorem UI.nU (w : UI h tg A u nb) {b : Nat} (e : tg b ≠ 1) : b ≠ A.U := fun z => e (by rw [z]; exact w.tU)
/-- the desk's own cells turn -/
theorem UI.dsk (w : UI h tg A u nb) {hf : Heap} {ra : Option Addr} {rc : Nat} {rg : List Int} {pin pinl : Bool} (he : Ext (fun b => b = A.U) h hf) (dd : B hf A.U (dcs { u.d with ra := ra, rc := rc, rg := rg, pin := pin, pinl := pinl }) 35) (hI : IL hf ra rc rg) (hl : rg.length ≤ 266) (ht : ∀ b, blkA ra = some b → tg b = 5) : UI hf tg A { u with d := { u.d with ra := ra, rc := rc, rg := rg, pin := pin, pinl := pinl } } nb :=
  ⟨dd, w.cx.ext he (fun b hb => w.nU (by rw [w.tC b hb]; omega)), w.ck, w.fi, w.mo.ext he (w.nU (by rw [w.tM]; omega)) (fun b e => w.nU (by rw [w.tl b e]; omega)) (fun b e => w.nU (by rw [w.tc b e]; omega)), hI, hl, w.lt.ext he (fun b e => w.nU (by rw [w.tt b e]; omega)), w.ll, w.xs.ext he (fun b e => w.nU (by rw [w.tx b e]; omega)), w.xl, w.ms.ext he (fun b e => w.nU (by rw [w.tm b e]; omega)), fun i hi => (w.kp i hi).ext he (fun b e => w.nU (by rw [w.tk i hi b e]; omega)), w.n1, w.n2, w.tU, w.tC, w.tM, w.tl, w.tc, ht, w.tt, w.tx, w.tm, w.tk, fun b hb => w.z b (Nat.le_trans he.1 hb), w.lo, Nat.le_trans w.hb he.1⟩
/-- the register turns -/
theorem UI.reg (w : UI h tg A u nb) {hf : Heap} {ra : Option Addr} {rc : Nat} {rg : List Int} (he : Ext (fun b => b = A.U ∨ blkA u.d.ra = some b) h hf) (dd : B hf A.U (dcs { u.d with ra := ra, rc := rc, rg := rg }) 35) (hI : IL hf ra rc rg) (hl : rg.length ≤ 266) (ht : ∀ b, blkA ra = some b → blkA u.d.ra = some b ∨ h.size ≤ b) : (∃ tg', UI hf tg' A { u with d := { u.d with ra := ra, rc := rc, rg := rg } } nb) ∧ Ext (fun b => A.base ≤ b) h hf := by
  have nS : ∀ b, tg b ≠ 1 → tg b ≠ 5 → ¬ (b = A.U ∨ blkA u.d.ra = some b) := fun b h1 h2 z => by
    rcases z with z | z
    · exact w.nU h1 z
    · exact h2 (w.tr b z)
  have hz := he.1
  refine ⟨w.go (hf := hf) (u' := { u with d := { u.d with ra := ra, rc := rc, rg := rg } }) (nb' := nb) false hf.size hf.size hf.size hf.size 5 0 0 0 (by omega) dd (w.cx.ext he (fun b hb => nS b (by rw [w.tC b hb]; omega) (by rw [w.tC b hb]; omega))) w.ck w.fi (w.mo.ext he (nS _ (by rw [w.tM]; omega) (by rw [w.tM]; omega)) (fun b e => nS b (by rw [w.tl b e]; omega) (by rw [w.tl b e]; omega)) (fun b e => nS b (by rw [w.tc b e]; omega) (by rw [w.tc b e]; omega))) hI hl (w.lt.ext he (fun b e => nS b (by rw [w.tt b e]; omega) (by rw [w.tt b e]; omega))) w.ll (w.xs.ext he (fun b e => nS b (by rw [w.tx b e]; omega) (by rw [w.tx b e]; omega))) w.xl (w.ms.ext he (fun b e => nS b (by rw [w.tm b e]; omega) (by rw [w.tm b e]; omega))) (fun i hi => (w.kp i hi).ext he (fun b e => nS b (by rw [w.tk i hi b e]; omega) (by rw [w.tk i hi b e]; omega))) w.n1 w.n2 (fun b e => .inl e) (fun b e => .inl e) (fun b e => ?_) (fun b e => .inl e) (fun b e => .inl ⟨rfl, e⟩) (fun b e => .inl e) (fun i hi b e => .inl ⟨i, hi, e⟩), he.mono fun b e => ?_⟩
  · rcases ht b e with q | q
    · exact .inl q
    · exact .inr (.inl ⟨q, hI.lt e, rfl⟩)
  · rcases e with e | e
    · exact w.bs (by rw [e, w.tU]; omega)
    · exact w.bs (by rw [w.tr b e]; omega)
theorem UI.ub (w : UI h tg A u nb) {hf : Heap} (he : Ext (fun b => b = A.U) h hf) : Ext (fun b => A.base ≤ b) h hf := he.mono fun b e => w.bs (by rw [e, w.tU]; omega)
end ui
theorem UI.nb0 {h : Heap} {tg : Nat → Nat} {A : UA} {u : US} {nb : Nat} (_w : UI h tg A u nb) {hf : Heap} (he : Ext (fun _ => False) h hf) : Ext (fun b => A.base ≤ b) h hf := he.mono fun _ f => f.elim
set_option maxHeartbeats 800000 in
theorem call_spec (h : Heap) (X : Nat) (u : HC) (c : CB h X u) (lf : Nat → Nat) (hck : CK u lf) (M : Nat) (la kb : Option Addr) (mk : MK h M la kb lf u.n) (hf_ : u.fill ≤ 265) (k oa ob oc : Int) (os ot : ByteArray) :
    FC Try.prog 23 (#[.pointer (some ⟨X, 0, none⟩), .pointer (some ⟨M, 0, none⟩), .agg #[.int .i64 k, .int .i64 oa, .int .i64 ob, .int .i64 oc, .string os, .string ot]] : Array Value) h fun rv h' => rv = .bool true ∧ Ext (fun _ => False) h h' := by
  refine FC_of [(0, .pointer (some ⟨X, 0, none⟩)), (1, .pointer (some ⟨M, 0, none⟩)), (2, .agg #[.int .i64 k, .int .i64 oa, .int .i64 ob, .int .i64 oc, .string os, .string ot])] Try.func23 rfl Try.ntmps23 (by simp) rfl (fun R hR => ?_)
  refine V_sr T.mix (by kernel_rfl) (fun K1 hK1 => ?_)
  refine S_boxA rfl ?_
  generalize hh : Array.push h _ = h1
  have hO : B h1 h.size #[.int .i64 k, .int .i64 oa, .int .i64 ob, .int .i64 oc, .string os, .string ot] 39 := by rw [← hh]; exact B.new _ _ _
  have hEh1 : Ext (fun _ => False) h h1 := by rw [← hh]; exact Ext.push _ _ _
  have hsh1 : h1.size = h.size + 1 := by rw [← hh]; simp
  clear hh
  try clear o0 o1 o2
  obtain ⟨o0, o1, o2⟩ := oq (hO)
  refine S_as rfl ?_
  refine S_nil (hK1 _ _ (V_keep [0, 1, 5] (by simp only [proj, lk, reduceIte, Nat.reduceEqDiff]; rfl) ?_)); clear hK1
  refine V_seq (fun K2 hK2 => ?_)
  refine V_sr T.mix (by kernel_rfl) (fun K3 hK3 => ?_)
  first | refine S_fa0 T.f39_0 rfl ?_ | refine S_fa T.f39_0 rfl ?_
  refine S_ldK T.ag3 rfl (fun K' hK' => ?_)
  simp (disch := omega) only [o0, o1, o2, oP_some, Nat.add_zero]
  refine hK' _ ?_; clear hK' K'
  refine S_nil (hK3 _ _ (V_keep [0, 1, 5, 8] (by simp only [proj, lk, reduceIte, Nat.reduceEqDiff]; rfl) ?_)); clear hK3
  refine V_block ?_
  refine V_sr T.mix (by kernel_rfl) (fun K4 hK4 => ?_)
  refine S_bin rfl rfl rfl ?_
  refine S_as rfl ?_
  refine S_nil (hK4 _ _ (V_keep [0, 1, 5, 8, 9] (by simp only [proj, lk, reduceIte, Nat.reduceEqDiff]; rfl) ?_)); clear hK4
  refine V_condp rfl (fun c355 => ?_) (fun c355 => ?_)
  · skip
    refine V_sr T.mix (by kernel_rfl) (fun K5 hK5 => ?_)
    refine S_mv rfl ?_
    refine S_mv rfl ?_
    refine S_call T.hb12 rfl ?_
    refine FC.mono (samesize_spec h1 X u (c.new hEh1) lf hck M la kb (mk.new hEh1)) ?_
    rintro v' h' ⟨rfl, rfl⟩
    refine S_as rfl ?_
    refine S_nil (hK5 _ _ (V_keep [6] (by simp only [proj, lk, reduceIte, Nat.reduceEqDiff]; rfl) ?_)); clear hK5
    refine V_ret ?_
    refine hR _ _ (ret1 rfl rfl ?_)
    exact ⟨rfl, hEh1⟩
  · skip
    refine V_sr T.mix (by kernel_rfl) (fun K6 hK6 => ?_)
    refine S_bin rfl rfl rfl ?_
    refine S_as rfl ?_
    refine S_nil (hK6 _ _ (V_keep [0, 1, 5, 8, 14] (by simp only [proj, lk, reduceIte, Nat.reduceEqDiff]; rfl) ?_)); clear hK6
    refine V_condp rfl (fun c357 => ?_) (fun c357 => ?_)
    · skip
      refine V_sr T.mix (by kernel_rfl) (fun K7 hK7 => ?_)
      refine S_mv rfl ?_
      refine S_mv rfl ?_
      first | refine S_fa0 T.f39_1 rfl ?_ | refine S_fa T.f39_1 rfl ?_
      refine S_ldK T.ag3 rfl (fun K' hK' => ?_)
      simp (disch := omega) only [o0, o1, o2, oP_some, Nat.add_zero]
      refine hK' _ ?_; clear hK' K'
      refine S_call T.hb14 rfl ?_
      refine FC.mono (samecode_spec h1 X u (c.new hEh1) lf hck M la kb (mk.new hEh1) oa) ?_
      rintro v' h' ⟨rfl, rfl⟩
      refine S_as rfl ?_
      refine S_nil (hK7 _ _ (V_keep [6] (by simp only [proj, lk, reduceIte, Nat.reduceEqDiff]; rfl) ?_)); clear hK7
      refine V_ret ?_
      refine hR _ _ (ret1 rfl rfl ?_)
      exact ⟨rfl, hEh1⟩
    · skip
      refine V_sr T.mix (by kernel_rfl) (fun K8 hK8 => ?_)
      refine S_bin rfl rfl rfl ?_
      refine S_as rfl ?_
      refine S_nil (hK8 _ _ (V_keep [0, 1, 5, 8, 21] (by simp only [proj, lk, reduceIte, Nat.reduceEqDiff]; rfl) ?_)); clear hK8
      refine V_condp rfl (fun c359 => ?_) (fun c359 => ?_)
      · skip
        refine V_sr T.mix (by kernel_rfl) (fun K9 hK9 => ?_)
        refine S_mv rfl ?_
        refine S_mv rfl ?_
        first | refine S_fa0 T.f39_1 rfl ?_ | refine S_fa T.f39_1 rfl ?_
        refine S_ldK T.ag3 rfl (fun K' hK' => ?_)
        simp (disch := omega) only [o0, o1, o2, oP_some, Nat.add_zero]
        refine hK' _ ?_; clear hK' K'
        first | refine S_fa0 T.f39_2 rfl ?_ | refine S_fa T.f39_2 rfl ?_
        refine S_ldK T.ag3 rfl (fun K' hK' => ?_)
        simp (disch := omega) only [o0, o1, o2, oP_some, Nat.add_zero]
        refine hK' _ ?_; clear hK' K'
        refine S_call T.hb17 rfl ?_
        refine FC.mono (samefind_spec h1 X u (c.new hEh1) lf hck M la kb (mk.new hEh1) oa ob) ?_
        rintro v' h' ⟨rfl, rfl⟩
        refine S_as rfl ?_
        refine S_nil (hK9 _ _ (V_keep [6] (by simp only [proj, lk, reduceIte, Nat.reduceEqDiff]; rfl) ?_)); clear hK9
        refine V_ret ?_
        refine hR _ _ (ret1 rfl rfl ?_)
        exact ⟨rfl, hEh1⟩
      · skip
        refine V_sr T.mix (by kernel_rfl) (fun K10 hK10 => ?_)
        refine S_bin rfl rfl rfl ?_
        refine S_as rfl ?_
        refine S_nil (hK10 _ _ (V_keep [0, 30] (by simp only [proj, lk, reduceIte, Nat.reduceEqDiff]; rfl) ?_)); clear hK10
        refine V_condp rfl (fun c361 => ?_) (fun c361 => ?_)
        · skip
          refine V_sr T.mix (by kernel_rfl) (fun K11 hK11 => ?_)
          refine S_mv rfl ?_
          refine S_call T.hb18 rfl ?_
          refine FC.mono (hcheck_spec h1 X u (c.new hEh1) lf hck hf_) ?_
          rintro v' h' ⟨rfl, rfl⟩
          refine S_as rfl ?_
          refine S_nil (hK11 _ _ (V_keep [6] (by simp only [proj, lk, reduceIte, Nat.reduceEqDiff]; rfl) ?_)); clear hK11
          refine V_ret ?_
          refine hR _ _ (ret1 rfl rfl ?_)
          exact ⟨rfl, hEh1⟩
        · skip
          refine V_skipk [] (by simp only [proj, lk, reduceIte, Nat.reduceEqDiff]; rfl) ?_
          refine hK2 _ _ ?_; clear hK2
          refine V_sr T.mix (by kernel_rfl) (fun K12 hK12 => ?_)
          refine S_as rfl ?_
          refine S_nil (hK12 _ _ (V_keep [6] (by simp only [proj, lk, reduceIte, Nat.reduceEqDiff]; rfl) ?_)); clear hK12
          refine V_ret ?_
          refine hR _ _ (ret1 rfl rfl ?_)
          exact ⟨rfl, hEh1⟩
set_option maxHeartbeats 3200000 in
theorem play_spec (h : Heap) (tg : Nat → Nat) (A : UA) (u : US) (nb : Nat) (w : UI h tg A u nb) (k oa ob oc : Int) (os ot : ByteArray) (hnb : nb ≤ 800000000000000) :
    FC Try.prog 10 (#[.pointer (some ⟨A.X, 0, none⟩), .pointer (some ⟨A.M, 0, none⟩), .pointer (some ⟨A.U, 0, none⟩), .agg #[.int .i64 k, .int .i64 oa, .int .i64 ob, .int .i64 oc, .string os, .string ot]] : Array Value) h fun rv h' => rv = .bool true ∧ ∃ (tg' : Nat → Nat) (u' : US), UI h' tg' A u' (nb + 2) ∧ Ext (fun b => A.base ≤ b) h h' := by
  have hhb := w.hb
  have hlt := w.lt1
  have hrl := w.rl
  have hll := w.ll
  have hxl := w.xl
  have hn1 := w.n1
  have hn2 := w.n2
  refine FC_of [(0, .pointer (some ⟨A.X, 0, none⟩)), (1, .pointer (some ⟨A.M, 0, none⟩)), (2, .pointer (some ⟨A.U, 0, none⟩)), (3, .agg #[.int .i64 k, .int .i64 oa, .int .i64 ob, .int .i64 oc, .string os, .string ot])] Try.func10 rfl Try.ntmps10 (by simp) rfl (fun R hR => ?_)
  refine V_sr T.mix (by kernel_rfl) (fun K1 hK1 => ?_)
  refine S_boxA rfl ?_
  generalize hh : Array.push h _ = h1
  have hO : B h1 h.size #[.int .i64 k, .int .i64 oa, .int .i64 ob, .int .i64 oc, .string os, .string ot] 39 := by rw [← hh]; exact B.new _ _ _
  have hEh1 : Ext (fun _ => False) h h1 := by rw [← hh]; exact Ext.push _ _ _
  have hsh1 : h1.size = h.size + 1 := by rw [← hh]; simp
  clear hh
  have w1 := w.new hEh1
  try clear o0 o1 o2
  obtain ⟨o0, o1, o2⟩ := oq (hO)
  try clear e0 e1 e2 e3 e4 e8 e9 e10 e11 e12 e13 e14 hdok
  obtain ⟨e0, e1, e2, e3, e4, e8, e9, e10, e11, e12, e13, e14, hdok⟩ := dq (w1.dd)
  refine S_as rfl ?_
  refine S_nil (hK1 _ _ (V_keep [0, 1, 2, 7] (by simp only [proj, lk, reduceIte, Nat.reduceEqDiff]; rfl) ?_)); clear hK1
  refine V_seq (fun K2 hK2 => ?_)
  refine V_sr T.mix (by kernel_rfl) (fun K3 hK3 => ?_)
  first | refine S_fa0 T.f39_0 rfl ?_ | refine S_fa T.f39_0 rfl ?_
  refine S_ldK T.ag3 rfl (fun K' hK' => ?_)
  simp (disch := omega) only [e0, e1, e2, e3, e4, e8, e9, e10, e11, e12, e13, e14, o0, o1, o2, oP_some, Nat.add_zero]
  refine hK' _ ?_; clear hK' K'
  refine S_nil (hK3 _ _ (V_keep [0, 1, 2, 7, 12] (by simp only [proj, lk, reduceIte, Nat.reduceEqDiff]; rfl) ?_)); clear hK3
  refine V_block ?_
  refine V_sr T.mix (by kernel_rfl) (fun K4 hK4 => ?_)
  refine S_bin rfl rfl rfl ?_
  refine S_as rfl ?_
  refine S_nil (hK4 _ _ (V_keep [0, 1, 2, 7, 12, 13] (by simp only [proj, lk, reduceIte, Nat.reduceEqDiff]; rfl) ?_)); clear hK4
  refine V_condp rfl (fun c370 => ?_) (fun c370 => ?_)
  · skip
    refine V_sr T.mix (by kernel_rfl) (fun K5 hK5 => ?_)
    refine S_mv rfl ?_
    refine S_mv rfl ?_
    refine S_nc rfl ?_
    first | refine S_fa0 T.f35_0 rfl ?_ | refine S_fa T.f35_0 rfl ?_
    refine S_ldK T.ag32 rfl (fun K' hK' => ?_)
    simp (disch := omega) only [e0, e1, e2, e3, e4, e8, e9, e10, e11, e12, e13, e14, o0, o1, o2, oP_some, Nat.add_zero]
    refine hK' _ ?_; clear hK' K'
    first | refine S_fa0 T.f39_1 rfl ?_ | refine S_fa T.f39_1 rfl ?_
    refine S_ldK T.ag3 rfl (fun K' hK' => ?_)
    simp (disch := omega) only [e0, e1, e2, e3, e4, e8, e9, e10, e11, e12, e13, e14, o0, o1, o2, oP_some, Nat.add_zero]
    refine hK' _ ?_; clear hK' K'
    refine S_call T.hb19 rfl ?_
    refine FC.mono (push_spec h1 u.d.ra u.d.rc u.d.rg w1.rg (by omega) oa) ?_
    rintro v' h2 ⟨ra2, rc2, ys, rfl, hI2, hys, hE2, hb2⟩
    have hz2 := hE2.1
    have hD2 := w1.dd.ext hE2 (fun e => by have h8 := w.tr _ e; rw [w.tU] at h8; omega)
    try clear e0 e1 e2 e3 e4 e8 e9 e10 e11 e12 e13 e14 hdok
    obtain ⟨e0, e1, e2, e3, e4, e8, e9, e10, e11, e12, e13, e14, hdok⟩ := dq (hD2)
    have hyl : ys.length ≤ 266 := by rw [hys]; split; (omega); (simp; omega)
    refine S_nc rfl ?_
    first | refine S_fa0 T.f35_0 rfl ?_ | refine S_fa T.f35_0 rfl ?_
    refine S_st T.sz32 rfl rfl rfl rfl (by simp (disch := omega) only [hdok]) ?_
    generalize hh : putH _ _ _ = h3
    have hD3 : B h3 A.U (dcs { u.d with ra := ra2, rc := rc2, rg := ys }) 35 := by rw [← hh]; exact (hD2.put 0 _).cong (by simp [dcs])
    have hE3 : Ext (fun b => b = A.U) h2 h3 := by rw [← hh]; exact Ext.put _ _ rfl
    clear hh
    have hra2 : ∀ b, blkA ra2 = some b → b ≠ A.U := fun b e z => by rcases hb2 b e with q | q; (have h8 := w.tr b q; rw [z, w.tU] at h8; omega); (omega)
    obtain ⟨⟨tg3, w3⟩, hEx⟩ := w1.reg ((hE2.mono fun _ e => .inr e).trans (hE3.mono fun _ e => .inl e)) hD3 (hI2.ext hE3 (fun b e => hra2 b e)) hyl hb2
    refine S_nil (hK5 _ _ (V_keep [] (by simp only [proj, lk, reduceIte, Nat.reduceEqDiff]; rfl) ?_)); clear hK5
    refine V_sr T.mix (by kernel_rfl) (fun K6 hK6 => ?_)
    refine S_as rfl ?_
    refine S_nil (hK6 _ _ (V_keep [8] (by simp only [proj, lk, reduceIte, Nat.reduceEqDiff]; rfl) ?_)); clear hK6
    refine V_ret ?_
    refine hR _ _ (ret1 rfl rfl ?_)
    exact ⟨rfl, tg3, _, w3.up (by omega), (w.nb0 hEh1).trans hEx⟩
  · skip
    refine V_sr T.mix (by kernel_rfl) (fun K7 hK7 => ?_)
    refine S_bin rfl rfl rfl ?_
    refine S_as rfl ?_
    refine S_nil (hK7 _ _ (V_keep [0, 1, 2, 7, 12, 25] (by simp only [proj, lk, reduceIte, Nat.reduceEqDiff]; rfl) ?_)); clear hK7
    refine V_condp rfl (fun c373 => ?_) (fun c373 => ?_)
    · skip
      refine V_sr T.mix (by kernel_rfl) (fun K8 hK8 => ?_)
      refine S_mv rfl ?_
      refine S_mv rfl ?_
      refine S_nc rfl ?_
      first | refine S_fa0 T.f35_0 rfl ?_ | refine S_fa T.f35_0 rfl ?_
      refine S_ldK T.ag32 rfl (fun K' hK' => ?_)
      simp (disch := omega) only [e0, e1, e2, e3, e4, e8, e9, e10, e11, e12, e13, e14, o0, o1, o2, oP_some, Nat.add_zero]
      refine hK' _ ?_; clear hK' K'
      first | refine S_fa0 T.f39_1 rfl ?_ | refine S_fa T.f39_1 rfl ?_
      refine S_ldK T.ag3 rfl (fun K' hK' => ?_)
      simp (disch := omega) only [e0, e1, e2, e3, e4, e8, e9, e10, e11, e12, e13, e14, o0, o1, o2, oP_some, Nat.add_zero]
      refine hK' _ ?_; clear hK' K'
      first | refine S_fa0 T.f39_2 rfl ?_ | refine S_fa T.f39_2 rfl ?_
      refine S_ldK T.ag3 rfl (fun K' hK' => ?_)
      simp (disch := omega) only [e0, e1, e2, e3, e4, e8, e9, e10, e11, e12, e13, e14, o0, o1, o2, oP_some, Nat.add_zero]
      refine hK' _ ?_; clear hK' K'
      refine S_call T.hb20 rfl ?_
      refine FC.mono (fill_spec h1 u.d.ra u.d.rc u.d.rg w1.rg (by omega) oa ob) ?_
      rintro v' h2 ⟨ra2, rc2, ys, rfl, hI2, hys, hE2, hb2⟩
      have hz2 := hE2.1
      have hD2 := w1.dd.ext hE2 (fun e => by have h8 := w.tr _ e; rw [w.tU] at h8; omega)
      try clear e0 e1 e2 e3 e4 e8 e9 e10 e11 e12 e13 e14 hdok
      obtain ⟨e0, e1, e2, e3, e4, e8, e9, e10, e11, e12, e13, e14, hdok⟩ := dq (hD2)
      have hyl := hys
      refine S_nc rfl ?_
      first | refine S_fa0 T.f35_0 rfl ?_ | refine S_fa T.f35_0 rfl ?_
      refine S_st T.sz32 rfl rfl rfl rfl (by simp (disch := omega) only [hdok]) ?_
      generalize hh : putH _ _ _ = h3
      have hD3 : B h3 A.U (dcs { u.d with ra := ra2, rc := rc2, rg := ys }) 35 := by rw [← hh]; exact (hD2.put 0 _).cong (by simp [dcs])
      have hE3 : Ext (fun b => b = A.U) h2 h3 := by rw [← hh]; exact Ext.put _ _ rfl
      clear hh
      have hra2 : ∀ b, blkA ra2 = some b → b ≠ A.U := fun b e z => by rcases hb2 b e with q | q; (have h8 := w.tr b q; rw [z, w.tU] at h8; omega); (omega)
      obtain ⟨⟨tg3, w3⟩, hEx⟩ := w1.reg ((hE2.mono fun _ e => .inr e).trans (hE3.mono fun _ e => .inl e)) hD3 (hI2.ext hE3 (fun b e => hra2 b e)) hyl hb2
      refine S_nil (hK8 _ _ (V_keep [] (by simp only [proj, lk, reduceIte, Nat.reduceEqDiff]; rfl) ?_)); clear hK8
      refine V_sr T.mix (by kernel_rfl) (fun K9 hK9 => ?_)
      refine S_as rfl ?_
      refine S_nil (hK9 _ _ (V_keep [8] (by simp only [proj, lk, reduceIte, Nat.reduceEqDiff]; rfl) ?_)); clear hK9
      refine V_ret ?_
      refine hR _ _ (ret1 rfl rfl ?_)
      exact ⟨rfl, tg3, _, w3.up (by omega), (w.nb0 hEh1).trans hEx⟩
    · skip
      refine V_sr T.mix (by kernel_rfl) (fun K10 hK10 => ?_)
      refine S_bin rfl rfl rfl ?_
      refine S_as rfl ?_
      refine S_nil (hK10 _ _ (V_keep [0, 1, 2, 7, 12, 39] (by simp only [proj, lk, reduceIte, Nat.reduceEqDiff]; rfl) ?_)); clear hK10
      refine V_condp rfl (fun c376 => ?_) (fun c376 => ?_)
      · skip
        refine V_sr T.mix (by kernel_rfl) (fun K11 hK11 => ?_)
        refine S_mv rfl ?_
        refine S_nc rfl ?_
        first | refine S_fa0 T.f35_0 rfl ?_ | refine S_fa T.f35_0 rfl ?_
        refine S_ldK T.ag32 rfl (fun K' hK' => ?_)
        simp (disch := omega) only [e0, e1, e2, e3, e4, e8, e9, e10, e11, e12, e13, e14, o0, o1, o2, oP_some, Nat.add_zero]
        refine hK' _ ?_; clear hK' K'
        refine S_as rfl ?_
        refine S_nil (hK11 _ _ (V_keep [0, 1, 2, 7, 9] (by simp only [proj, lk, reduceIte, Nat.reduceEqDiff]; rfl) ?_)); clear hK11
        refine V_sr T.mix (by kernel_rfl) (fun K12 hK12 => ?_)
        refine S_mv rfl ?_
        refine S_nc rfl ?_
        first | refine S_fa0 T.f35_0 rfl ?_ | refine S_fa T.f35_0 rfl ?_
        refine S_st T.sz32 rfl rfl rfl rfl (by simp (disch := omega) only [hdok]) ?_
        generalize hh : putH _ _ _ = h2
        have hD2 : B h2 A.U (dcs { u.d with ra := none, rc := 0, rg := [] }) 35 := by rw [← hh]; exact (w1.dd.put 0 _).cong (by simp [dcs])
        have hE2 : Ext (fun b => b = A.U) h1 h2 := by rw [← hh]; exact Ext.put _ _ rfl
        clear hh
        have hz2 := hE2.1
        have w2 := w1.dsk (pin := u.d.pin) (pinl := u.d.pinl) hE2 hD2 (IL.nil _) (by simp) (by simp [blkA])
        have hIr := w1.rg.ext hE2 (fun b e => w1.nU (by rw [w.tr b e]; omega))
        try clear o0 o1 o2
        obtain ⟨o0, o1, o2⟩ := oq (hO.ext hE2 (fun e => by omega))
        refine S_nil (hK12 _ _ (V_keep [0, 1, 2, 7, 9] (by simp only [proj, lk, reduceIte, Nat.reduceEqDiff]; rfl) ?_)); clear hK12
        refine V_sr T.mix (by kernel_rfl) (fun K13 hK13 => ?_)
        refine S_mv rfl ?_
        refine S_mv rfl ?_
        refine S_mv rfl ?_
        refine S_mv rfl ?_
        first | refine S_fa0 T.f39_1 rfl ?_ | refine S_fa T.f39_1 rfl ?_
        refine S_ldK T.ag3 rfl (fun K' hK' => ?_)
        simp (disch := omega) only [e0, e1, e2, e3, e4, e8, e9, e10, e11, e12, e13, e14, o0, o1, o2, oP_some, Nat.add_zero]
        refine hK' _ ?_; clear hK' K'
        refine S_call T.hb21 rfl ?_
        refine FC.mono (sameplan_spec h2 tg A _ nb w2 u.d.ra u.d.rc u.d.rg hIr (by omega) (fun b e => by rw [w.tr b e]; omega) hnb oa) ?_
        rintro v' h3 ⟨rfl, tg3, u3, w3, hE3⟩
        refine S_as rfl ?_
        refine S_nil (hK13 _ _ (V_keep [8] (by simp only [proj, lk, reduceIte, Nat.reduceEqDiff]; rfl) ?_)); clear hK13
        refine V_ret ?_
        refine hR _ _ (ret1 rfl rfl ?_)
        exact ⟨rfl, tg3, u3, w3, ((w.nb0 hEh1).trans (w1.ub hE2)).trans hE3⟩
      · skip
        refine V_sr T.mix (by kernel_rfl) (fun K14 hK14 => ?_)
        refine S_bin rfl rfl rfl ?_
        refine S_as rfl ?_
        refine S_nil (hK14 _ _ (V_keep [0, 1, 2, 7, 12, 55] (by simp only [proj, lk, reduceIte, Nat.reduceEqDiff]; rfl) ?_)); clear hK14
        refine V_condp rfl (fun c380 => ?_) (fun c380 => ?_)
        · skip
          refine V_sr T.mix (by kernel_rfl) (fun K15 hK15 => ?_)
          refine S_mv rfl ?_
          refine S_nc rfl ?_
          first | refine S_fa0 T.f35_0 rfl ?_ | refine S_fa T.f35_0 rfl ?_
          refine S_ldK T.ag32 rfl (fun K' hK' => ?_)
          simp (disch := omega) only [e0, e1, e2, e3, e4, e8, e9, e10, e11, e12, e13, e14, o0, o1, o2, oP_some, Nat.add_zero]
          refine hK' _ ?_; clear hK' K'
          refine S_as rfl ?_
          refine S_nil (hK15 _ _ (V_keep [0, 1, 2, 10] (by simp only [proj, lk, reduceIte, Nat.reduceEqDiff]; rfl) ?_)); clear hK15
          refine V_sr T.mix (by kernel_rfl) (fun K16 hK16 => ?_)
          refine S_mv rfl ?_
          refine S_nc rfl ?_
          first | refine S_fa0 T.f35_0 rfl ?_ | refine S_fa T.f35_0 rfl ?_
          refine S_st T.sz32 rfl rfl rfl rfl (by simp (disch := omega) only [hdok]) ?_
          generalize hh : putH _ _ _ = h2
          have hD2 : B h2 A.U (dcs { u.d with ra := none, rc := 0, rg := [] }) 35 := by rw [← hh]; exact (w1.dd.put 0 _).cong (by simp [dcs])
          have hE2 : Ext (fun b => b = A.U) h1 h2 := by rw [← hh]; exact Ext.put _ _ rfl
          clear hh
          have hz2 := hE2.1
          have w2 := w1.dsk (pin := u.d.pin) (pinl := u.d.pinl) hE2 hD2 (IL.nil _) (by simp) (by simp [blkA])
          have hIr := w1.rg.ext hE2 (fun b e => w1.nU (by rw [w.tr b e]; omega))
          try clear o0 o1 o2
          obtain ⟨o0, o1, o2⟩ := oq (hO.ext hE2 (fun e => by omega))
          refine S_nil (hK16 _ _ (V_keep [0, 1, 2, 10] (by simp only [proj, lk, reduceIte, Nat.reduceEqDiff]; rfl) ?_)); clear hK16
          refine V_sr T.mix (by kernel_rfl) (fun K17 hK17 => ?_)
          refine S_mv rfl ?_
          refine S_mv rfl ?_
          refine S_mv rfl ?_
          refine S_mv rfl ?_
          refine S_call T.hb22 rfl ?_
          refine FC.mono (samebuild_spec h2 tg A _ nb w2 u.d.ra u.d.rc u.d.rg hIr (by omega) (fun b e => by rw [w.tr b e]; omega) hnb) ?_
          rintro v' h3 ⟨rfl, tg3, u3, w3, hE3⟩
          refine S_as rfl ?_
          refine S_nil (hK17 _ _ (V_keep [8] (by simp only [proj, lk, reduceIte, Nat.reduceEqDiff]; rfl) ?_)); clear hK17
          refine V_ret ?_
          refine hR _ _ (ret1 rfl rfl ?_)
          exact ⟨rfl, tg3, u3, w3, ((w.nb0 hEh1).trans (w1.ub hE2)).trans hE3⟩
        · skip
          refine V_sr T.mix (by kernel_rfl) (fun K18 hK18 => ?_)
          refine S_bin rfl rfl rfl ?_
          refine S_as rfl ?_
          refine S_nil (hK18 _ _ (V_keep [0, 1, 2, 7, 12, 69] (by simp only [proj, lk, reduceIte, Nat.reduceEqDiff]; rfl) ?_)); clear hK18
          refine V_condp rfl (fun c384 => ?_) (fun c384 => ?_)
          · skip
            refine V_sr T.mix (by kernel_rfl) (fun K19 hK19 => ?_)
            refine S_mv rfl ?_
            refine S_mv rfl ?_
            refine S_mv rfl ?_
            refine S_mv rfl ?_
            refine S_nc rfl ?_
            first | refine S_fa0 T.f35_1 rfl ?_ | refine S_fa T.f35_1 rfl ?_
            refine S_ldK T.ag32 rfl (fun K' hK' => ?_)
            simp (disch := omega) only [e0, e1, e2, e3, e4, e8, e9, e10, e11, e12, e13, e14, o0, o1, o2, oP_some, Nat.add_zero]
            refine hK' _ ?_; clear hK' K'
            refine S_call T.hb22 rfl ?_
            refine FC.mono (samebuild_spec h1 tg A u nb w1 u.d.ta u.d.lt.length u.d.lt w1.lt (by omega) (fun b e => by rw [w.tt b e]; omega) hnb) ?_
            rintro v' h3 ⟨rfl, tg3, u3, w3, hE3⟩
            refine S_as rfl ?_
            refine S_nil (hK19 _ _ (V_keep [8] (by simp only [proj, lk, reduceIte, Nat.reduceEqDiff]; rfl) ?_)); clear hK19
            refine V_ret ?_
            refine hR _ _ (ret1 rfl rfl ?_)
            exact ⟨rfl, tg3, u3, w3, (w.nb0 hEh1).trans hE3⟩
          · skip
            refine V_sr T.mix (by kernel_rfl) (fun K20 hK20 => ?_)
            refine S_bin rfl rfl rfl ?_
            refine S_as rfl ?_
            refine S_nil (hK20 _ _ (V_keep [0, 1, 2, 7, 79] (by simp only [proj, lk, reduceIte, Nat.reduceEqDiff]; rfl) ?_)); clear hK20
            refine V_condp rfl (fun c386 => ?_) (fun c386 => ?_)
            · skip
              refine V_seq (fun K21 hK21 => ?_)
              refine V_sr T.mix (by kernel_rfl) (fun K22 hK22 => ?_)
              first | refine S_fa0 T.f39_1 rfl ?_ | refine S_fa T.f39_1 rfl ?_
              refine S_ldK T.ag3 rfl (fun K' hK' => ?_)
              simp (disch := omega) only [e0, e1, e2, e3, e4, e8, e9, e10, e11, e12, e13, e14, o0, o1, o2, oP_some, Nat.add_zero]
              refine hK' _ ?_; clear hK' K'
              refine S_bin rfl rfl rfl ?_
              refine S_nil (hK22 _ _ (V_keep [2, 83] (by simp only [proj, lk, reduceIte, Nat.reduceEqDiff]; rfl) ?_)); clear hK22
              refine V_condp rfl (fun c387 => ?_) (fun c387 => ?_)
              · skip
                refine V_sr T.mix (by kernel_rfl) (fun K23 hK23 => ?_)
                refine S_mv rfl ?_
                refine S_nc rfl ?_
                first | refine S_fa0 T.f35_10 rfl ?_ | refine S_fa T.f35_10 rfl ?_
                refine S_st T.sz4 rfl rfl rfl rfl (by simp (disch := omega) only [hdok]) ?_
                generalize hh : putH _ _ _ = h2
                have hD2 : B h2 A.U (dcs { u.d with pinl := true }) 35 := by rw [← hh]; exact (w1.dd.put 13 _).cong (by simp [dcs])
                have hE2 : Ext (fun b => b = A.U) h1 h2 := by rw [← hh]; exact Ext.put _ _ rfl
                clear hh
                have w2 := w1.dsk (ra := u.d.ra) (rc := u.d.rc) (rg := u.d.rg) (pin := u.d.pin) (pinl := true) hE2 hD2 (w1.rg.ext hE2 (fun b e => w1.nU (by rw [w.tr b e]; omega))) w.rl w.tr
                refine S_nil (hK23 _ _ (V_keep [] (by simp only [proj, lk, reduceIte, Nat.reduceEqDiff]; rfl) ?_)); clear hK23
                refine V_sr T.mix (by kernel_rfl) (fun K24 hK24 => ?_)
                refine S_as rfl ?_
                refine S_nil (hK24 _ _ (V_keep [8] (by simp only [proj, lk, reduceIte, Nat.reduceEqDiff]; rfl) ?_)); clear hK24
                refine V_ret ?_
                refine hR _ _ (ret1 rfl rfl ?_)
                exact ⟨rfl, tg, _, w2.up (by omega), (w.nb0 hEh1).trans (w1.ub hE2)⟩
              · skip
                refine V_skipk [2] (by simp only [proj, lk, reduceIte, Nat.reduceEqDiff]; rfl) ?_
                refine hK21 _ _ ?_; clear hK21
                refine V_sr T.mix (by kernel_rfl) (fun K25 hK25 => ?_)
                refine S_mv rfl ?_
                refine S_nc rfl ?_
                first | refine S_fa0 T.f35_8 rfl ?_ | refine S_fa T.f35_8 rfl ?_
                refine S_st T.sz4 rfl rfl rfl rfl (by simp (disch := omega) only [hdok]) ?_
                generalize hh : putH _ _ _ = h2
                have hD2 : B h2 A.U (dcs { u.d with pin := true }) 35 := by rw [← hh]; exact (w1.dd.put 11 _).cong (by simp [dcs])
                have hE2 : Ext (fun b => b = A.U) h1 h2 := by rw [← hh]; exact Ext.put _ _ rfl
                clear hh
                have w2 := w1.dsk (ra := u.d.ra) (rc := u.d.rc) (rg := u.d.rg) (pin := true) (pinl := u.d.pinl) hE2 hD2 (w1.rg.ext hE2 (fun b e => w1.nU (by rw [w.tr b e]; omega))) w.rl w.tr
                refine S_nil (hK25 _ _ (V_keep [] (by simp only [proj, lk, reduceIte, Nat.reduceEqDiff]; rfl) ?_)); clear hK25
                refine V_sr T.mix (by kernel_rfl) (fun K26 hK26 => ?_)
                refine S_as rfl ?_
                refine S_nil (hK26 _ _ (V_keep [8] (by simp only [proj, lk, reduceIte, Nat.reduceEqDiff]; rfl) ?_)); clear hK26
                refine V_ret ?_
                refine hR _ _ (ret1 rfl rfl ?_)
                exact ⟨rfl, tg, _, w2.up (by omega), (w.nb0 hEh1).trans (w1.ub hE2)⟩
            · skip
              refine V_skipk [0, 1, 2, 7] (by simp only [proj, lk, reduceIte, Nat.reduceEqDiff]; rfl) ?_
              refine hK2 _ _ ?_; clear hK2
              refine V_seq (fun K27 hK27 => ?_)
              refine V_sr T.mix (by kernel_rfl) (fun K28 hK28 => ?_)
              refine S_mv rfl ?_
              refine S_mv rfl ?_
              refine S_ldn T.ag39 rfl (hO.all rfl) ?_
              refine S_call T.hb23 rfl ?_
              refine FC.mono (call_spec h1 A.X u.c w1.cx u.lf w.ck A.M u.la u.kb w1.mo w.fi k oa ob oc os ot) ?_
              rintro v' h2 ⟨rfl, hE2⟩
              have w2 := w1.new hE2
              refine S_notb rfl ?_
              refine S_nil (hK28 _ _ (V_keep [2, 94] (by simp only [proj, lk, reduceIte, Nat.reduceEqDiff]; rfl) ?_)); clear hK28
              refine V_condb rfl (fun c394 => ?_) (fun c394 => ?_)
              · skip
                cases c394
              · skip
                refine V_skipk [2] (by simp only [proj, lk, reduceIte, Nat.reduceEqDiff]; rfl) ?_
                refine hK27 _ _ ?_; clear hK27
                refine V_sr T.mix (by kernel_rfl) (fun K29 hK29 => ?_)
                refine S_mv rfl ?_
                refine S_call T.hb24 rfl ?_
                refine FC.mono (again_spec h2 A.U u.d w2.dd w2.kp w2.xs w2.ms (fun b e => w.nU (by rw [w.tx b e]; omega)) (by omega) (by omega) (by omega)) ?_
                rintro v' h3 ⟨rfl, s3, dd3, kpx3, hst3, hn3, hna3, ⟨o1_, o2_, o3_, o4_, o5_, o6_, o7_, o8_⟩, hE3⟩
                have hEa : Ext (Sx h2 A u) h2 h3 := hE3.mono fun b e => by rcases e with e | e; (exact .inl e); (exact .inr (.inr (.inl e)))
                obtain ⟨kold, rg3, lt3, mk3⟩ := w2.oldk hEa
                have hz3 := hE3.1
                obtain ⟨tgf, wf⟩ := w2.go (hf := h3) (u' := ⟨u.c, u.la, u.kb, u.lf, s3⟩) (nb' := nb + 2) true h2.size h2.size h2.size h2.size 0 0 0 0 (by omega) dd3 (w2.cx.ext hE3 (fun b hb z => by rcases z with z | z; (exact w.nU (by rw [w.tC b hb]; omega) z); (have h8 := w.tx b z; rw [w.tC b hb] at h8; omega))) w.ck w.fi mk3 (by simp only []; rw [o1_, o2_, o3_]; exact rg3) (by simp only []; rw [o3_]; exact w.rl) (by simp only []; rw [o4_, o5_]; exact lt3) (by simp only []; rw [o5_]; exact w.ll) (by simp only []; rw [o6_, o7_]; exact IL.nil _) (by simp only []; rw [o7_]; simp) (by simp only []; rw [o8_, o7_]; exact IL.nil _) (fun i hi => by rcases hst3 i with q | q; (simp only []; rw [q]; exact kold i hi); (simp only []; rw [q]; exact kpx3)) (by simp only []; omega) (by simp only []; omega) (fun b e => .inl e) (fun b e => .inl e) (fun b e => .inl (by simp only [] at e; rw [o1_] at e; exact e)) (fun b e => .inl (by simp only [] at e; rw [o4_] at e; exact e)) (fun b e => by simp only [] at e; rw [o6_] at e; cases e) (fun b e => by simp only [] at e; rw [o8_] at e; cases e) (fun i hi b e => by rcases hst3 i with q | q; (exact .inl ⟨i, hi, by rw [← q]; exact e⟩); (exact .inr (.inl ⟨rfl, by simp only [] at e; rw [q] at e; exact e⟩)))
                refine S_as rfl ?_
                refine S_nil (hK29 _ _ (V_keep [8] (by simp only [proj, lk, reduceIte, Nat.reduceEqDiff]; rfl) ?_)); clear hK29
                refine V_ret ?_
                refine hR _ _ (ret1 rfl rfl ?_)
                exact ⟨rfl, tgf, _, wf, ((w.nb0 hEh1).trans (w1.nb0 hE2)).trans (w2.sxb hEa)⟩
end Go.Proofs.Qxb6500407a
