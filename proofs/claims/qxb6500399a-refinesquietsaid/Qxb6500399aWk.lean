import Derived.Test.Qxb6500399aWj
set_option linter.unusedVariables false
set_option linter.unusedSimpArgs false
namespace Go.Proofs.Qxb6500399a
open Go.Eng Go.Cnf

/-- the desk's cells -/
theorem dc0 {h : Heap} {D : Nat} {t : DS} (hd : B h D (dcs t) 38) : cellH h ⟨D, 0, none⟩ = some (.string t.text) := hd.cell 0
theorem dc1 {h : Heap} {D : Nat} {t : DS} (hd : B h D (dcs t) 38) : cellH h ⟨D, 1, none⟩ = some (.slice t.ra t.rg.length t.rc) := hd.cell 1
theorem dc2 {h : Heap} {D : Nat} {t : DS} (hd : B h D (dcs t) 38) : cellH h ⟨D, 2, none⟩ = some (.string t.last) := hd.cell 2
theorem dc3 {h : Heap} {D : Nat} {t : DS} (hd : B h D (dcs t) 38) : cellH h ⟨D, 3, none⟩ = some (.slice t.pa t.pl.length t.pc) := hd.cell 3
/-- the script, as it lies in the heap -/
def Scr (base : Nat) (h : Heap) (sa : Option Addr) (n : Nat) : Prop := ∀ i, i < n → ∃ sb so, sa = some ⟨sb, so, none⟩ ∧ sb < base ∧ ∃ k a b c s u, cellsH h ⟨sb, so + i * 6, none⟩ 0 6 = some [.int .i64 k, .int .i64 a, .int .i64 b, .int .i64 c, .string s, .string u]
theorem cellsH_same {h h' : Heap} {b o : Nat} (he : h'[b]? = h[b]?) : ∀ (n i : Nat), cellsH h' ⟨b, o, none⟩ i n = cellsH h ⟨b, o, none⟩ i n
  | 0, _ => rfl
  | n + 1, i => by
    have e : cellH h' ((⟨b, o, none⟩ : Addr).add i) = cellH h ((⟨b, o, none⟩ : Addr).add i) := by rw [add_mk]; unfold cellH; simp only [he]
    simp only [cellsH, e, cellsH_same he n (i + 1)]
theorem Scr.ext {base : Nat} {h h' : Heap} {sa : Option Addr} {n : Nat} (hs : Scr base h sa n) (hb : base ≤ h.size) (he : Ext (fun b => base ≤ b) h h') : Scr base h' sa n := by
  intro i hi
  obtain ⟨sb, so, e, hlt, k, a, b, c, s, u, hc⟩ := hs i hi
  exact ⟨sb, so, e, hlt, k, a, b, c, s, u, by rw [cellsH_same (he.2 sb (by omega) (by omega))]; exact hc⟩
def ds0 : DS := ⟨⟨#[]⟩, none, 0, [], ⟨#[]⟩, none, 0, [], none, 0, []⟩
theorem wi0 {base : Nat} {h : Heap} {X M D : Nat} (hP : Par h X none 0 p0) (hM : B h M #[.int .i64 0, .int .i64 0] 48) (hD : B h D (dcs ds0) 38) (h1 : base ≤ X) (h2 : X < M) (h3 : M < D) : ∃ tg, WI base h tg X M D none 0 ds0 := by
  have hlt := hD.lt
  refine ⟨fun b => if b = X then 1 else if b = M then 2 else if b = D then 3 else 0, hP, ⟨_, _, hM⟩, hD, IL.nil _, IL.nil _, OwnR.nil _ _ _ _, by simp [ds0], by simp, by simp [blkA], ?_, ?_, by simp [blkA, ds0], by simp [blkA, ds0], by simp [blkA, ds0], by simp [ds0], ?_, by omega, by simp [ds0], by simp [ds0], by decide, Nat.zero_le _⟩
  · simp only [if_neg (show ¬ M = X by omega), if_true]
  · simp only [if_neg (show ¬ D = X by omega), if_neg (show ¬ D = M by omega), if_true]
  · intro b hb
    by_cases e1 : b = X
    · omega
    · by_cases e2 : b = M
      · omega
      · by_cases e3 : b = D
        · omega
        · simp only [e1, e2, e3, if_false] at hb; exact absurd rfl hb
theorem dok {h : Heap} {D : Nat} {t : DS} (hd : B h D (dcs t) 38) {j : Nat} (hj : j < 5) : okPut h ⟨D, j, none⟩ = true := hd.ok (by simpa [dcs] using hj)
set_option maxHeartbeats 1600000 in
theorem play_spec (base : Nat) (h : Heap) (tg : Nat → Nat) (X M D : Nat) (a : Option Addr) (cap : Nat) (t : DS) (w : WI base h tg X M D a cap t) (k oa ob oc : Int) (os ot : ByteArray) (q : Bool) :
    FC Try.prog 11 (#[.pointer (some ⟨X, 0, none⟩), .pointer (some ⟨M, 0, none⟩), .pointer (some ⟨D, 0, none⟩), .agg #[.int .i64 k, .int .i64 oa, .int .i64 ob, .int .i64 oc, .string os, .string ot], .bool (decide (q = true))] : Array Value) h fun v h' => v = .bool true ∧ ∃ tg' a' cap' t', WI base h' tg' X M D a' cap' t' ∧ Ext (fun b => base ≤ b) h h' := by
  have hbs := w.hb
  refine FC_of [(0, .pointer (some ⟨X, 0, none⟩)), (1, .pointer (some ⟨M, 0, none⟩)), (2, .pointer (some ⟨D, 0, none⟩)), (3, .agg #[.int .i64 k, .int .i64 oa, .int .i64 ob, .int .i64 oc, .string os, .string ot]), (4, .bool (decide (q = true)))] Try.func11 rfl Try.ntmps11 (by simp) rfl (fun R hR => ?_)
  refine V_sr T.mix (by kernel_rfl) (fun K1 hK1 => ?_)
  refine S_boxA rfl ?_
  generalize hh : Array.push h _ = h1
  have hO : B h1 h.size #[.int .i64 k, .int .i64 oa, .int .i64 ob, .int .i64 oc, .string os, .string ot] 42 := by rw [← hh]; exact B.new _ _ _
  have hE1 : Ext (fun _ => False) h h1 := by rw [← hh]; exact Ext.push _ _ _
  clear hh
  replace w := w.ext hE1 (fun _ f => f.elim)
  have hEE : Ext (fun b => base ≤ b) h h1 := hE1.mono fun _ f => f.elim
  have hs1 := hE1.1
  have hd := w.dd
  have hbs1 := w.hb
  have o0 : cellH h1 ⟨h.size, 0, none⟩ = some (.int .i64 k) := hO.cell 0
  have o1 : cellH h1 ⟨h.size, 1, none⟩ = some (.int .i64 oa) := hO.cell 1
  have o2 : cellH h1 ⟨h.size, 2, none⟩ = some (.int .i64 ob) := hO.cell 2
  have o4 : cellH h1 ⟨h.size, 4, none⟩ = some (.string os) := hO.cell 4
  have L0 := o0
  have L2 := o0
  have d0 := dc0 w.dd
  have d1 := dc1 w.dd
  have d2 := dc2 w.dd
  have d3 := dc3 w.dd
  have hok0 : okPut h1 ⟨D, 0, none⟩ = true := dok w.dd (by omega)
  have hok1 : okPut h1 ⟨D, 1, none⟩ = true := dok w.dd (by omega)
  refine S_as rfl ?_
  refine S_nil (hK1 _ _ (V_keep [0, 1, 2, 4, 8] (by simp only [proj, lk, reduceIte, Nat.reduceEqDiff]; rfl) ?_)); clear hK1
  refine V_seq (fun K2 hK2 => ?_)
  refine V_sr T.mix (by kernel_rfl) (fun K3 hK3 => ?_)
  first | refine S_fa0 T.f42_0 rfl ?_ | refine S_fa T.f42_0 rfl ?_
  refine S_ldK T.ag3 rfl (fun K' hK' => ?_)
  simp (disch := omega) only [o0, o1, o2, o4, d0, d1, d2, d3, L0, L2, oP_some, Nat.add_zero]
  refine hK' _ ?_; clear hK' K'
  refine S_nil (hK3 _ _ (V_keep [0, 1, 2, 4, 8, 21] (by simp only [proj, lk, reduceIte, Nat.reduceEqDiff]; rfl) ?_)); clear hK3
  refine V_block ?_
  refine V_sr T.mix (by kernel_rfl) (fun K4 hK4 => ?_)
  refine S_bin rfl rfl rfl ?_
  refine S_as rfl ?_
  refine S_nil (hK4 _ _ (V_keep [0, 1, 2, 4, 8, 21, 22] (by simp only [proj, lk, reduceIte, Nat.reduceEqDiff]; rfl) ?_)); clear hK4
  refine V_condp rfl (fun c179 => ?_) (fun c179 => ?_)
  · skip
    refine V_reg T.mix (by kernel_rfl) ?_
    refine S_mv rfl ?_
    refine S_mv rfl ?_
    refine S_nc rfl ?_
    first | refine S_fa0 T.f38_0 rfl ?_ | refine S_fa T.f38_0 rfl ?_
    refine S_ldK T.ag9 rfl (fun K' hK' => ?_)
    simp (disch := omega) only [o0, o1, o2, o4, d0, d1, d2, d3, L0, L2, oP_some, Nat.add_zero]
    refine hK' _ ?_; clear hK' K'
    first | refine S_fa0 T.f42_4 rfl ?_ | refine S_fa T.f42_4 rfl ?_
    refine S_ldK T.ag9 rfl (fun K' hK' => ?_)
    simp (disch := omega) only [o0, o1, o2, o4, d0, d1, d2, d3, L0, L2, oP_some, Nat.add_zero]
    refine hK' _ ?_; clear hK' K'
    refine S_call T.hb12 rfl ?_
    refine FC.mono (join_spec h1 t.text os (by have := w.tx; omega)) ?_
    rintro v h' ⟨⟨r2, rfl, hr2⟩, rfl⟩
    refine S_nc rfl ?_
    first | refine S_fa0 T.f38_0 rfl ?_ | refine S_fa T.f38_0 rfl ?_
    refine S_st T.sz9 rfl rfl rfl rfl (by simp (disch := omega) only [hok0]) ?_
    generalize hh : putH _ _ _ = h2
    have hEh2 : Ext (fun b => b = D) h1 h2 := by rw [← hh]; exact Ext.put _ _ rfl
    have hdh2 : B h2 D (dcs { t with text := r2 }) 38 := by rw [← hh]; exact hd.put 0 _
    clear hh
    obtain ⟨w2, hE2⟩ := w.setText hEh2 hdh2 (by have := w.tx; omega)
    have hEF := hEE.trans hE2
    refine S_nilk [] (by simp only [proj, lk, reduceIte, Nat.reduceEqDiff]; rfl) ?_
    refine hK2 _ _ ?_; clear hK2
    refine V_sr T.mix (by kernel_rfl) (fun K5 hK5 => ?_)
    refine S_as rfl ?_
    refine S_nil (hK5 _ _ (V_keep [10] (by simp only [proj, lk, reduceIte, Nat.reduceEqDiff]; rfl) ?_)); clear hK5
    refine V_ret ?_
    refine hR _ _ (ret1 rfl rfl ?_)
    exact ⟨rfl, tg, a, cap, _, w2, hEF⟩
  · skip
    refine V_sr T.mix (by kernel_rfl) (fun K6 hK6 => ?_)
    refine S_bin rfl rfl rfl ?_
    refine S_as rfl ?_
    refine S_nil (hK6 _ _ (V_keep [0, 1, 2, 4, 8, 21, 34] (by simp only [proj, lk, reduceIte, Nat.reduceEqDiff]; rfl) ?_)); clear hK6
    refine V_condp rfl (fun c181 => ?_) (fun c181 => ?_)
    · skip
      refine V_sr T.mix (by kernel_rfl) (fun K7 hK7 => ?_)
      refine S_mv rfl ?_
      refine S_nc rfl ?_
      first | refine S_fa0 T.f38_0 rfl ?_ | refine S_fa T.f38_0 rfl ?_
      refine S_ldK T.ag9 rfl (fun K' hK' => ?_)
      simp (disch := omega) only [o0, o1, o2, o4, d0, d1, d2, d3, L0, L2, oP_some, Nat.add_zero]
      refine hK' _ ?_; clear hK' K'
      first | refine S_fa0 T.f42_4 rfl ?_ | refine S_fa T.f42_4 rfl ?_
      refine S_ldK T.ag9 rfl (fun K' hK' => ?_)
      simp (disch := omega) only [o0, o1, o2, o4, d0, d1, d2, d3, L0, L2, oP_some, Nat.add_zero]
      refine hK' _ ?_; clear hK' K'
      refine S_call T.hb12 rfl ?_
      refine FC.mono (join_spec h1 t.text os (by have := w.tx; omega)) ?_
      rintro v h' ⟨⟨r2, rfl, hr2⟩, rfl⟩
      refine S_as rfl ?_
      refine S_nil (hK7 _ _ (V_keep [0, 1, 2, 4, 11] (by simp only [proj, lk, reduceIte, Nat.reduceEqDiff]; rfl) ?_)); clear hK7
      refine V_sr T.mix (by kernel_rfl) (fun K8 hK8 => ?_)
      refine S_mv rfl ?_
      refine S_nc rfl ?_
      first | refine S_fa0 T.f38_0 rfl ?_ | refine S_fa T.f38_0 rfl ?_
      refine S_st T.sz9 rfl rfl rfl rfl (by simp (disch := omega) only [hok0]) ?_
      generalize hh : putH _ _ _ = h2
      have hEh2 : Ext (fun b => b = D) h1 h2 := by rw [← hh]; exact Ext.put _ _ rfl
      have hdh2 : B h2 D (dcs { t with text := ⟨#[]⟩ }) 38 := by rw [← hh]; exact hd.put 0 _
      clear hh
      obtain ⟨w2, hE2⟩ := w.setText hEh2 hdh2 (Nat.zero_le _)
      replace hEE := hEE.trans hE2
      refine S_nil (hK8 _ _ (V_keep [0, 1, 2, 4, 11] (by simp only [proj, lk, reduceIte, Nat.reduceEqDiff]; rfl) ?_)); clear hK8
      refine V_sr T.mix (by kernel_rfl) (fun K9 hK9 => ?_)
      refine S_mv rfl ?_
      refine S_mv rfl ?_
      refine S_mv rfl ?_
      refine S_mv rfl ?_
      refine S_call T.hb13 rfl ?_
      refine FC.mono (sameparse_spec base h2 tg X M D a cap { t with text := ⟨#[]⟩ } w2 r2) ?_
      rintro v h3 ⟨fb, tg3, a3, c3, t3, rfl, hIB, hbb, w3, hs3, hE3⟩
      replace hEE := hEE.trans hE3
      have hc3 : ∀ b, blkA fb = some b → b < h3.size := fun b hb => hIB.lt hb
      have hbs3 := w3.hb
      refine S_mv rfl ?_
      refine S_ex rfl rfl ?_
      refine S_ex rfl rfl ?_
      refine S_allocA T.z51 ?_
      generalize hh : Array.push h3 _ = h4
      have hL : B h4 h3.size #[.int .i64 0, .int .i64 0, .slice none 0 0] 51 := by rw [← hh]; exact B.new _ _ _
      have hEh4 : Ext (fun _ => False) h3 h4 := by rw [← hh]; exact Ext.push _ _ _
      clear hh
      replace hIB := hIB.ext hEh4 (fun _ _ f => f)
      have hz3 := w3.z (Nat.le_refl _)
      replace w3 := w3.ext hEh4 (fun _ f => f.elim)
      replace hEE := hEE.trans (hEh4.mono fun _ f => f.elim)
      have hs4 := hEh4.1
      have hL3 := hL.lt
      have hokL : ∀ j, j < 3 → okPut h4 ⟨h3.size, j, none⟩ = true := fun j hj => hL.ok (by simpa using hj)
      refine S_stl T.sz51 rfl rfl rfl rfl (fun j hj => by simp (disch := omega) only [hokL]) ?_
      generalize hh : putsH _ _ _ _ = h5
      replace hL : B h5 h3.size #[.int .i64 (parseF r2).1, .int .i64 (parseF r2).2.1, .slice fb (parseF r2).2.2.length (parseF r2).2.2.length] 51 := by rw [← hh]; exact B.puts_all hL (cs' := #[.int .i64 (parseF r2).1, .int .i64 (parseF r2).2.1, .slice fb (parseF r2).2.2.length (parseF r2).2.2.length]) rfl
      have hEh5 : Ext (fun k => k = h3.size) h4 h5 := by rw [← hh]; exact Ext.puts (S := fun k => k = h3.size) rfl _ _ _
      clear hh
      replace hIB := hIB.ext hEh5 (fun b hb e => by have := hc3 b hb; omega)
      replace w3 := w3.ext hEh5 (fun b e => by subst e; exact hz3)
      replace hEE := hEE.trans (hEh5.mono fun b (e : b = _) => by omega)
      have L0 : cellH h5 ⟨h3.size, 0, none⟩ = some (.int .i64 (parseF r2).1) := hL.cell 0
      have L2 : cellH h5 ⟨h3.size, 2, none⟩ = some (.slice fb (parseF r2).2.2.length (parseF r2).2.2.length) := hL.cell 2
      have hokD : okPut h5 ⟨D, 1, none⟩ = true := dok w3.dd (by omega)
      have hd5 := w3.dd
      refine S_as rfl ?_
      refine S_nil (hK9 _ _ (V_keep [0, 1, 2, 4, 12, 13] (by simp only [proj, lk, reduceIte, Nat.reduceEqDiff]; rfl) ?_)); clear hK9
      refine V_seq (fun K10 hK10 => ?_)
      refine V_sr T.mix (by kernel_rfl) (fun K11 hK11 => ?_)
      refine S_mv rfl ?_
      refine S_notb rfl ?_
      refine S_nil (hK11 _ _ (V_keep [0, 1, 2, 4, 12, 55] (by simp only [proj, lk, reduceIte, Nat.reduceEqDiff]; rfl) ?_)); clear hK11
      refine V_condb rfl (fun c185 => ?_) (fun c185 => ?_)
      · skip
        cases c185
      · skip
        refine V_skipk [0, 1, 2, 4, 12] (by simp only [proj, lk, reduceIte, Nat.reduceEqDiff]; rfl) ?_
        refine hK10 _ _ ?_; clear hK10
        refine V_seq (fun K12 hK12 => ?_)
        refine V_sr T.mix (by kernel_rfl) (fun K13 hK13 => ?_)
        first | refine S_fa0 T.f51_0 rfl ?_ | refine S_fa T.f51_0 rfl ?_
        refine S_ldK T.ag44 rfl (fun K' hK' => ?_)
        simp (disch := omega) only [o0, o1, o2, o4, d0, d1, d2, d3, L0, L2, oP_some, Nat.add_zero]
        refine hK' _ ?_; clear hK' K'
        refine S_bin rfl rfl rfl ?_
        refine S_nil (hK13 _ _ (V_keep [0, 1, 2, 4, 12, 58] (by simp only [proj, lk, reduceIte, Nat.reduceEqDiff]; rfl) ?_)); clear hK13
        refine V_condp rfl (fun c188 => ?_) (fun c188 => ?_)
        · skip
          refine V_sr T.mix (by kernel_rfl) (fun K14 hK14 => ?_)
          refine S_as rfl ?_
          refine S_nil (hK14 _ _ (V_keep [10] (by simp only [proj, lk, reduceIte, Nat.reduceEqDiff]; rfl) ?_)); clear hK14
          refine V_ret ?_
          refine hR _ _ (ret1 rfl rfl ?_)
          exact ⟨rfl, tg3, a3, c3, _, w3, hEE⟩
        · skip
          refine V_skipk [0, 1, 2, 4, 12] (by simp only [proj, lk, reduceIte, Nat.reduceEqDiff]; rfl) ?_
          refine hK12 _ _ ?_; clear hK12
          refine V_sr T.mix (by kernel_rfl) (fun K15 hK15 => ?_)
          refine S_mv rfl ?_
          first | refine S_fa0 T.f51_2 rfl ?_ | refine S_fa T.f51_2 rfl ?_
          refine S_ldK T.ag35 rfl (fun K' hK' => ?_)
          simp (disch := omega) only [o0, o1, o2, o4, d0, d1, d2, d3, L0, L2, oP_some, Nat.add_zero]
          refine hK' _ ?_; clear hK' K'
          refine S_nc rfl ?_
          first | refine S_fa0 T.f38_1 rfl ?_ | refine S_fa T.f38_1 rfl ?_
          refine S_st T.sz35 rfl rfl rfl rfl (by simp (disch := omega) only [hokD]) ?_
          generalize hh : putH _ _ _ = h6
          have hEh6 : Ext (fun b => b = D) h5 h6 := by rw [← hh]; exact Ext.put _ _ rfl
          have hdh6 : B h6 D (dcs { t3 with ra := fb, rc := (parseF r2).2.2.length, rg := (parseF r2).2.2 }) 38 := by rw [← hh]; exact hd5.put 1 _
          clear hh
          have hnD : ¬ h3.size = D := fun e => by have := w3.tD; rw [← e] at this; omega
          obtain ⟨tg6, w6, _, hE6⟩ := w3.setReg (ra := fb) (rc := (parseF r2).2.2.length) (ys := (parseF r2).2.2) (h' := h6) (hEh6.mono fun b e => .inl e) hdh6 (hIB.ext hEh6 (fun b hb => w3.nD (hbb b hb).1 (by omega))) (fun b hb => .inr (hbb b hb)) (by have := rest_len (s := r2); omega)
          replace hEE := hEE.trans hE6
          replace hL := hL.ext hEh6 hnD
          clear L2
          have L2 : cellH h6 ⟨h3.size, 2, none⟩ = some (.slice fb (parseF r2).2.2.length (parseF r2).2.2.length) := hL.cell 2
          refine S_nil (hK15 _ _ (V_keep [0, 1, 2, 4, 12] (by simp only [proj, lk, reduceIte, Nat.reduceEqDiff]; rfl) ?_)); clear hK15
          refine V_seq (fun K16 hK16 => ?_)
          refine V_sr T.mix (by kernel_rfl) (fun K17 hK17 => ?_)
          refine S_mv rfl ?_
          refine S_nil (hK17 _ _ (V_keep [0, 1, 2, 12, 64] (by simp only [proj, lk, reduceIte, Nat.reduceEqDiff]; rfl) ?_)); clear hK17
          refine V_condp rfl (fun c192 => ?_) (fun c192 => ?_)
          · skip
            refine V_sr T.mix (by kernel_rfl) (fun K18 hK18 => ?_)
            refine S_as rfl ?_
            refine S_nil (hK18 _ _ (V_keep [10] (by simp only [proj, lk, reduceIte, Nat.reduceEqDiff]; rfl) ?_)); clear hK18
            refine V_ret ?_
            refine hR _ _ (ret1 rfl rfl ?_)
            exact ⟨rfl, tg6, a3, c3, _, w6, hEE⟩
          · skip
            refine V_skipk [0, 1, 2, 12] (by simp only [proj, lk, reduceIte, Nat.reduceEqDiff]; rfl) ?_
            refine hK16 _ _ ?_; clear hK16
            refine V_sr T.mix (by kernel_rfl) (fun K19 hK19 => ?_)
            refine S_mv rfl ?_
            refine S_mv rfl ?_
            refine S_mv rfl ?_
            first | refine S_fa0 T.f51_2 rfl ?_ | refine S_fa T.f51_2 rfl ?_
            refine S_ldK T.ag35 rfl (fun K' hK' => ?_)
            simp (disch := omega) only [o0, o1, o2, o4, d0, d1, d2, d3, L0, L2, oP_some, Nat.add_zero]
            refine hK' _ ?_; clear hK' K'
            refine S_call T.hb14 rfl ?_
            have hfo := (parseF_ok (s := r2) (by omega)).2
            refine FC.mono (meaning_spec base h6 tg6 X M D a3 c3 { t3 with ra := fb, rc := (parseF r2).2.2.length, rg := (parseF r2).2.2 } w6 hfo) ?_
            rintro v h7 ⟨rfl, tg7, a7, c7, t7, w7, hE7⟩
            refine S_as rfl ?_
            refine S_nil (hK19 _ _ (V_keep [10] (by simp only [proj, lk, reduceIte, Nat.reduceEqDiff]; rfl) ?_)); clear hK19
            refine V_ret ?_
            refine hR _ _ (ret1 rfl rfl ?_)
            exact ⟨rfl, tg7, a7, c7, t7, w7, hEE.trans hE7⟩
    · skip
      refine V_sr T.mix (by kernel_rfl) (fun K20 hK20 => ?_)
      refine S_bin rfl rfl rfl ?_
      refine S_as rfl ?_
      refine S_nil (hK20 _ _ (V_keep [0, 1, 2, 8, 21, 71] (by simp only [proj, lk, reduceIte, Nat.reduceEqDiff]; rfl) ?_)); clear hK20
      refine V_condp rfl (fun c196 => ?_) (fun c196 => ?_)
      · skip
        refine V_reg T.mix (by kernel_rfl) ?_
        refine S_mv rfl ?_
        refine S_mv rfl ?_
        refine S_nc rfl ?_
        first | refine S_fa0 T.f38_1 rfl ?_ | refine S_fa T.f38_1 rfl ?_
        refine S_ldK T.ag35 rfl (fun K' hK' => ?_)
        simp (disch := omega) only [o0, o1, o2, o4, d0, d1, d2, d3, L0, L2, oP_some, Nat.add_zero]
        refine hK' _ ?_; clear hK' K'
        first | refine S_fa0 T.f42_1 rfl ?_ | refine S_fa T.f42_1 rfl ?_
        refine S_ldK T.ag3 rfl (fun K' hK' => ?_)
        simp (disch := omega) only [o0, o1, o2, o4, d0, d1, d2, d3, L0, L2, oP_some, Nat.add_zero]
        refine hK' _ ?_; clear hK' K'
        refine S_call T.hb15 rfl ?_
        refine FC.mono (push_spec h1 t.ra t.rc t.rg w.rg (by have := w.rl; omega) oa 262144 (by omega) (by omega)) ?_
        rintro v h2 ⟨a2, c2, ys, rfl, hi2, hO2, hyl⟩
        have hn2 : ∀ b, blkA a2 = some b → tg b = 5 ∨ (tg b = 0 ∧ base ≤ b) := fun b hb => by rcases hO2.2 b hb with e | e; (exact .inl (w.tr b e)); (exact .inr ⟨w.z e, by omega⟩)
        have hd2 := w.dd.ext hO2.1 (fun e => by have := w.tr _ e; have := w.tD; omega)
        have hok2 : okPut h2 ⟨D, 1, none⟩ = true := dok hd2 (by omega)
        refine S_nc rfl ?_
        first | refine S_fa0 T.f38_1 rfl ?_ | refine S_fa T.f38_1 rfl ?_
        refine S_st T.sz35 rfl rfl rfl rfl (by simp (disch := omega) only [hok2]) ?_
        generalize hh : putH _ _ _ = h3
        have hEh3 : Ext (fun b => b = D) h2 h3 := by rw [← hh]; exact Ext.put _ _ rfl
        have hdh3 : B h3 D (dcs { t with ra := a2, rc := c2, rg := ys }) 38 := by rw [← hh]; exact hd2.put 1 _
        clear hh
        have hlt2 : ∀ b, blkA a2 = some b → b ≠ D := fun b hb e => by subst e; have := hn2 _ hb; have := w.tD; omega
        obtain ⟨tg3, w3, _, hE3⟩ := w.setReg (ra := a2) (rc := c2) (ys := ys) (h' := h3) ((hO2.1.mono fun b e => .inr e).trans (hEh3.mono fun b e => .inl e)) hdh3 (hi2.ext hEh3 (fun b hb e => hlt2 b hb e)) hn2 (by have := w.rl; omega)
        have hEF := hEE.trans hE3
        refine S_nilk [] (by simp only [proj, lk, reduceIte, Nat.reduceEqDiff]; rfl) ?_
        refine hK2 _ _ ?_; clear hK2
        refine V_sr T.mix (by kernel_rfl) (fun K21 hK21 => ?_)
        refine S_as rfl ?_
        refine S_nil (hK21 _ _ (V_keep [10] (by simp only [proj, lk, reduceIte, Nat.reduceEqDiff]; rfl) ?_)); clear hK21
        refine V_ret ?_
        refine hR _ _ (ret1 rfl rfl ?_)
        exact ⟨rfl, tg3, a, cap, _, w3, hEF⟩
      · skip
        refine V_sr T.mix (by kernel_rfl) (fun K22 hK22 => ?_)
        refine S_bin rfl rfl rfl ?_
        refine S_as rfl ?_
        refine S_nil (hK22 _ _ (V_keep [0, 1, 2, 8, 21, 83] (by simp only [proj, lk, reduceIte, Nat.reduceEqDiff]; rfl) ?_)); clear hK22
        refine V_condp rfl (fun c198 => ?_) (fun c198 => ?_)
        · skip
          refine V_reg T.mix (by kernel_rfl) ?_
          refine S_mv rfl ?_
          refine S_nc rfl ?_
          first | refine S_fa0 T.f38_1 rfl ?_ | refine S_fa T.f38_1 rfl ?_
          refine S_st T.sz35 rfl rfl rfl rfl (by simp (disch := omega) only [hok1]) ?_
          generalize hh : putH _ _ _ = h2
          have hEh2 : Ext (fun b => b = D) h1 h2 := by rw [← hh]; exact Ext.put _ _ rfl
          have hdh2 : B h2 D (dcs { t with ra := none, rc := 0, rg := [] }) 38 := by rw [← hh]; exact hd.put 1 _
          clear hh
          obtain ⟨tg2, w2, _, hE2⟩ := w.setReg (ra := none) (rc := 0) (ys := []) (h' := h2) (hEh2.mono fun b e => .inl e) hdh2 (IL.nil _) (fun b hb => by simp [blkA] at hb) (by simp)
          have hEF := hEE.trans hE2
          refine S_nilk [] (by simp only [proj, lk, reduceIte, Nat.reduceEqDiff]; rfl) ?_
          refine hK2 _ _ ?_; clear hK2
          refine V_sr T.mix (by kernel_rfl) (fun K23 hK23 => ?_)
          refine S_as rfl ?_
          refine S_nil (hK23 _ _ (V_keep [10] (by simp only [proj, lk, reduceIte, Nat.reduceEqDiff]; rfl) ?_)); clear hK23
          refine V_ret ?_
          refine hR _ _ (ret1 rfl rfl ?_)
          exact ⟨rfl, tg2, a, cap, _, w2, hEF⟩
        · skip
          refine V_sr T.mix (by kernel_rfl) (fun K24 hK24 => ?_)
          refine S_bin rfl rfl rfl ?_
          refine S_as rfl ?_
          refine S_nil (hK24 _ _ (V_keep [0, 1, 2, 8, 21, 88] (by simp only [proj, lk, reduceIte, Nat.reduceEqDiff]; rfl) ?_)); clear hK24
          refine V_condp rfl (fun c200 => ?_) (fun c200 => ?_)
          · skip
            refine V_sr T.mix (by kernel_rfl) (fun K25 hK25 => ?_)
            refine S_mv rfl ?_
            refine S_nc rfl ?_
            first | refine S_fa0 T.f38_1 rfl ?_ | refine S_fa T.f38_1 rfl ?_
            refine S_ldK T.ag35 rfl (fun K' hK' => ?_)
            simp (disch := omega) only [o0, o1, o2, o4, d0, d1, d2, d3, L0, L2, oP_some, Nat.add_zero]
            refine hK' _ ?_; clear hK' K'
            refine S_as rfl ?_
            refine S_nil (hK25 _ _ (V_keep [0, 1, 2, 14] (by simp only [proj, lk, reduceIte, Nat.reduceEqDiff]; rfl) ?_)); clear hK25
            refine V_sr T.mix (by kernel_rfl) (fun K26 hK26 => ?_)
            refine S_mv rfl ?_
            refine S_nc rfl ?_
            first | refine S_fa0 T.f38_1 rfl ?_ | refine S_fa T.f38_1 rfl ?_
            refine S_st T.sz35 rfl rfl rfl rfl (by simp (disch := omega) only [hok1]) ?_
            generalize hh : putH _ _ _ = h2
            have hEh2 : Ext (fun b => b = D) h1 h2 := by rw [← hh]; exact Ext.put _ _ rfl
            have hdh2 : B h2 D (dcs { t with ra := none, rc := 0, rg := [] }) 38 := by rw [← hh]; exact hd.put 1 _
            clear hh
            obtain ⟨tg2, w2, ht2, hE2⟩ := w.setReg (ra := none) (rc := 0) (ys := []) (h' := h2) (hEh2.mono fun b e => .inl e) hdh2 (IL.nil _) (fun b hb => by simp [blkA] at hb) (by simp)
            replace hEE := hEE.trans hE2
            have hf2 := w.rg.ext hEh2 (fun b hb => w.nD (w.tr b hb) (by omega))
            have h52 : ∀ b, blkA t.ra = some b → tg2 b = 5 := fun b hb => by rw [ht2 b (by simp [blkA])]; exact w.tr b hb
            refine S_nil (hK26 _ _ (V_keep [0, 1, 2, 14] (by simp only [proj, lk, reduceIte, Nat.reduceEqDiff]; rfl) ?_)); clear hK26
            refine V_sr T.mix (by kernel_rfl) (fun K27 hK27 => ?_)
            refine S_mv rfl ?_
            refine S_mv rfl ?_
            refine S_mv rfl ?_
            refine S_mv rfl ?_
            refine S_call T.hb16 rfl ?_
            refine FC.mono (sameprint_spec base h2 tg2 X M D a cap _ w2 t.ra t.rc t.rg hf2 h52 w.rl) ?_
            rintro v h3 ⟨tg3, t3, rfl, hf3, h53, w3, hs3, hE3⟩
            replace hEE := hEE.trans hE3
            have hok2 : ∀ j, j < 5 → okPut h3 ⟨D, j, none⟩ = true := fun j hj => dok w3.dd hj
            have hd3 := w3.dd
            refine S_mv rfl ?_
            refine S_ex rfl rfl ?_
            refine S_ex rfl rfl ?_
            refine S_ex rfl rfl ?_
            refine S_as rfl ?_
            refine S_as rfl ?_
            refine S_as rfl ?_
            refine S_nil (hK27 _ _ (V_keep [2, 14, 15, 16, 17] (by simp only [proj, lk, reduceIte, Nat.reduceEqDiff]; rfl) ?_)); clear hK27
            refine V_seq (fun K28 hK28 => ?_)
            refine V_sr T.mix (by kernel_rfl) (fun K29 hK29 => ?_)
            refine S_mv rfl ?_
            refine S_notb rfl ?_
            refine S_nil (hK29 _ _ (V_keep [2, 14, 15, 16, 107] (by simp only [proj, lk, reduceIte, Nat.reduceEqDiff]; rfl) ?_)); clear hK29
            refine V_condb rfl (fun c204 => ?_) (fun c204 => ?_)
            · skip
              cases c204
            · skip
              refine V_skipk [2, 14, 15, 16] (by simp only [proj, lk, reduceIte, Nat.reduceEqDiff]; rfl) ?_
              refine hK28 _ _ ?_; clear hK28
              refine V_sr T.mix (by kernel_rfl) (fun K30 hK30 => ?_)
              refine S_mv rfl ?_
              refine S_bin rfl rfl rfl ?_
              refine S_nil (hK30 _ _ (V_keep [2, 14, 15, 109] (by simp only [proj, lk, reduceIte, Nat.reduceEqDiff]; rfl) ?_)); clear hK30
              refine V_condp rfl (fun c207 => ?_) (fun c207 => ?_)
              · skip
                refine V_reg T.mix (by kernel_rfl) ?_
                refine S_mv rfl ?_
                refine S_mv rfl ?_
                refine S_mv rfl ?_
                refine S_mv rfl ?_
                refine S_nc rfl ?_
                first | refine S_fa0 T.f38_2 rfl ?_ | refine S_fa T.f38_2 rfl ?_
                refine S_st T.sz9 rfl rfl rfl rfl (by simp (disch := omega) only [hok2]) ?_
                generalize hh : putH _ _ _ = h4
                have hEh4 : Ext (fun b => b = D) h3 h4 := by rw [← hh]; exact Ext.put _ _ rfl
                have hd4 : B h4 D (dcs { t3 with last := (printF t.rg).1 }) 38 := by rw [← hh]; exact hd3.put 2 _
                clear hh hok2
                have hok2 : ∀ j, j < 5 → okPut h4 ⟨D, j, none⟩ = true := fun j hj => dok hd4 hj
                refine S_nc rfl ?_
                first | refine S_fa0 T.f38_3 rfl ?_ | refine S_fa T.f38_3 rfl ?_
                refine S_st T.sz35 rfl rfl rfl rfl (by simp (disch := omega) only [hok2]) ?_
                generalize hh : putH _ _ _ = h5
                have hEh5 : Ext (fun b => b = D) h4 h5 := by rw [← hh]; exact Ext.put _ _ rfl
                have hd5 : B h5 D (dcs { t3 with last := (printF t.rg).1, pa := t.ra, pc := t.rc, pl := t.rg }) 38 := by rw [← hh]; exact hd4.put 3 _
                clear hh
                obtain ⟨tg5, w5, hE5⟩ := w3.setPr (by rw [hs3.2.1]) (hEh4.trans hEh5) hd5 hf3 h53 (printF_ok (by omega))
                have hEF := hEE.trans hE5
                refine S_nilk [] (by simp only [proj, lk, reduceIte, Nat.reduceEqDiff]; rfl) ?_
                refine hK2 _ _ ?_; clear hK2
                refine V_sr T.mix (by kernel_rfl) (fun K31 hK31 => ?_)
                refine S_as rfl ?_
                refine S_nil (hK31 _ _ (V_keep [10] (by simp only [proj, lk, reduceIte, Nat.reduceEqDiff]; rfl) ?_)); clear hK31
                refine V_ret ?_
                refine hR _ _ (ret1 rfl rfl ?_)
                exact ⟨rfl, tg5, a, cap, _, w5, hEF⟩
              · skip
                refine V_skipk [] (by simp only [proj, lk, reduceIte, Nat.reduceEqDiff]; rfl) ?_
                refine hK2 _ _ ?_; clear hK2
                refine V_sr T.mix (by kernel_rfl) (fun K32 hK32 => ?_)
                refine S_as rfl ?_
                refine S_nil (hK32 _ _ (V_keep [10] (by simp only [proj, lk, reduceIte, Nat.reduceEqDiff]; rfl) ?_)); clear hK32
                refine V_ret ?_
                refine hR _ _ (ret1 rfl rfl ?_)
                exact ⟨rfl, tg3, a, cap, _, w3, hEE⟩
          · skip
            refine V_sr T.mix (by kernel_rfl) (fun K33 hK33 => ?_)
            refine S_bin rfl rfl rfl ?_
            refine S_as rfl ?_
            refine S_nil (hK33 _ _ (V_keep [0, 1, 2, 8, 21, 118] (by simp only [proj, lk, reduceIte, Nat.reduceEqDiff]; rfl) ?_)); clear hK33
            refine V_condp rfl (fun c210 => ?_) (fun c210 => ?_)
            · skip
              refine V_sr T.mix (by kernel_rfl) (fun K34 hK34 => ?_)
              refine S_mv rfl ?_
              refine S_mv rfl ?_
              refine S_mv rfl ?_
              refine S_mv rfl ?_
              refine S_nc rfl ?_
              first | refine S_fa0 T.f38_2 rfl ?_ | refine S_fa T.f38_2 rfl ?_
              refine S_ldK T.ag9 rfl (fun K' hK' => ?_)
              simp (disch := omega) only [o0, o1, o2, o4, d0, d1, d2, d3, L0, L2, oP_some, Nat.add_zero]
              refine hK' _ ?_; clear hK' K'
              refine S_call T.hb13 rfl ?_
              refine FC.mono (sameparse_spec base h1 tg X M D a cap t w t.last) ?_
              rintro v h2 ⟨fb, tg2, a2, c2, t2, hv, hIB, hbb, w2, hs2, hE2⟩
              have hv2 : v = .tuple #[.agg #[.int .i64 0, .int .i64 0, .slice fb t.pl.length t.pl.length], .bool true] := by rw [hv, w.lp]; rfl
              subst hv2
              clear hv
              rw [w.lp] at hIB
              replace hEE := hEE.trans hE2
              have hc2 : ∀ b, blkA fb = some b → b < h2.size := fun b hb => hIB.lt hb
              have hbs2 := w2.hb
              refine S_mv rfl ?_
              refine S_ex rfl rfl ?_
              refine S_ex rfl rfl ?_
              refine S_allocA T.z51 ?_
              generalize hh : Array.push h2 _ = h3
              have hL : B h3 h2.size #[.int .i64 0, .int .i64 0, .slice none 0 0] 51 := by rw [← hh]; exact B.new _ _ _
              have hEh3 : Ext (fun _ => False) h2 h3 := by rw [← hh]; exact Ext.push _ _ _
              clear hh
              replace hIB := hIB.ext hEh3 (fun _ _ f => f)
              have hz2 := w2.z (Nat.le_refl _)
              replace w2 := w2.ext hEh3 (fun _ f => f.elim)
              replace hEE := hEE.trans (hEh3.mono fun _ f => f.elim)
              have hs3 := hEh3.1
              have hL3 := hL.lt
              have hokL : ∀ j, j < 3 → okPut h3 ⟨h2.size, j, none⟩ = true := fun j hj => hL.ok (by simpa using hj)
              refine S_stl T.sz51 rfl rfl rfl rfl (fun j hj => by simp (disch := omega) only [hokL]) ?_
              generalize hh : putsH _ _ _ _ = h4
              replace hL : B h4 h2.size #[.int .i64 0, .int .i64 0, .slice fb t.pl.length t.pl.length] 51 := by rw [← hh]; exact B.puts_all hL (cs' := #[.int .i64 0, .int .i64 0, .slice fb t.pl.length t.pl.length]) rfl
              have hEh4 : Ext (fun k => k = h2.size) h3 h4 := by rw [← hh]; exact Ext.puts (S := fun k => k = h2.size) rfl _ _ _
              clear hh
              replace hIB := hIB.ext hEh4 (fun b hb e => by have := hc2 b hb; omega)
              replace w2 := w2.ext hEh4 (fun b e => by subst e; exact hz2)
              replace hEE := hEE.trans (hEh4.mono fun b (e : b = _) => by omega)
              have L0 : cellH h4 ⟨h2.size, 0, none⟩ = some (.int .i64 0) := hL.cell 0
              have L2 : cellH h4 ⟨h2.size, 2, none⟩ = some (.slice fb t.pl.length t.pl.length) := hL.cell 2
              have hp4 : IL h4 t.pa t.pc t.pl := by have := w2.pr; rw [hs2.2.2.2.2.2.1, hs2.2.2.2.2.2.2.1, hs2.2.2.2.2.2.2.2] at this; exact this
              clear d3
              have d3 : cellH h4 ⟨D, 3, none⟩ = some (.slice t.pa t.pl.length t.pc) := by have := dc3 w2.dd; rw [hs2.2.2.2.2.2.1, hs2.2.2.2.2.2.2.1, hs2.2.2.2.2.2.2.2] at this; exact this
              refine S_as rfl ?_
              refine S_nil (hK34 _ _ (V_keep [2, 18, 19] (by simp only [proj, lk, reduceIte, Nat.reduceEqDiff]; rfl) ?_)); clear hK34
              refine V_seq (fun K35 hK35 => ?_)
              refine V_sr T.mix (by kernel_rfl) (fun K36 hK36 => ?_)
              refine S_mv rfl ?_
              refine S_notb rfl ?_
              refine S_mv rfl ?_
              refine S_decb (fun g212 => ?_) (fun g212 => ?_)
              · skip
                cases g212
              · skip
                refine S_gt rfl ?_
                first | refine S_fa0 T.f51_0 rfl ?_ | refine S_fa T.f51_0 rfl ?_
                refine S_gt rfl ?_
                refine S_ldK T.ag44 rfl (fun K' hK' => ?_)
                simp (disch := omega) only [o0, o1, o2, o4, d0, d1, d2, d3, L0, L2, oP_some, Nat.add_zero]
                refine hK' _ ?_; clear hK' K'
                refine S_gt rfl ?_
                refine S_bin rfl rfl rfl ?_
                refine S_pf rfl rfl ?_
                refine S_nil (hK36 _ _ (V_keep [2, 18, 137] (by simp only [proj, lk, reduceIte, Nat.reduceEqDiff]; rfl) ?_)); clear hK36
                refine V_condp rfl (fun c212 => ?_) (fun c212 => ?_)
                · skip
                  exfalso; exact c212 rfl
                · skip
                  refine V_skipk [2, 18] (by simp only [proj, lk, reduceIte, Nat.reduceEqDiff]; rfl) ?_
                  refine hK35 _ _ ?_; clear hK35
                  refine V_sr T.mix (by kernel_rfl) (fun K37 hK37 => ?_)
                  first | refine S_fa0 T.f51_2 rfl ?_ | refine S_fa T.f51_2 rfl ?_
                  refine S_ldK T.ag35 rfl (fun K' hK' => ?_)
                  simp (disch := omega) only [o0, o1, o2, o4, d0, d1, d2, d3, L0, L2, oP_some, Nat.add_zero]
                  refine hK' _ ?_; clear hK' K'
                  refine S_mv rfl ?_
                  refine S_nc rfl ?_
                  first | refine S_fa0 T.f38_3 rfl ?_ | refine S_fa T.f38_3 rfl ?_
                  refine S_ldK T.ag35 rfl (fun K' hK' => ?_)
                  simp (disch := omega) only [o0, o1, o2, o4, d0, d1, d2, d3, L0, L2, oP_some, Nat.add_zero]
                  refine hK' _ ?_; clear hK' K'
                  refine S_call T.hb17 rfl ?_
                  refine FC.mono (sameints_spec h4 fb t.pa _ _ t.pl t.pl hIB hp4 (by have := rest_len (s := t.last); rw [w.lp] at this; simp only at this; omega) (by have := rest_len (s := t.last); rw [w.lp] at this; simp only at this; omega)) ?_
                  rintro v h' ⟨rfl, rfl⟩
                  refine S_as rfl ?_
                  refine S_nil (hK37 _ _ (V_keep [10] (by simp only [proj, lk, reduceIte, Nat.reduceEqDiff]; rfl) ?_)); clear hK37
                  refine V_ret ?_
                  refine hR _ _ (ret1 rfl rfl ?_)
                  exact ⟨by simp, tg2, a2, c2, _, w2, hEE⟩
            · skip
              refine V_sr T.mix (by kernel_rfl) (fun K38 hK38 => ?_)
              refine S_bin rfl rfl rfl ?_
              refine S_as rfl ?_
              refine S_nil (hK38 _ _ (V_keep [0, 2, 8, 21, 145] (by simp only [proj, lk, reduceIte, Nat.reduceEqDiff]; rfl) ?_)); clear hK38
              refine V_condp rfl (fun c216 => ?_) (fun c216 => ?_)
              · skip
                refine V_sr T.mix (by kernel_rfl) (fun K39 hK39 => ?_)
                refine S_mv rfl ?_
                refine S_call T.hb10 rfl ?_
                refine FC.mono (check_spec h1 X a cap w.P) ?_
                rintro v h' ⟨rfl, rfl⟩
                refine S_as rfl ?_
                refine S_nil (hK39 _ _ (V_keep [10] (by simp only [proj, lk, reduceIte, Nat.reduceEqDiff]; rfl) ?_)); clear hK39
                refine V_ret ?_
                refine hR _ _ (ret1 rfl rfl ?_)
                exact ⟨rfl, tg, a, cap, _, w, hEE⟩
              · skip
                refine V_sr T.mix (by kernel_rfl) (fun K40 hK40 => ?_)
                refine S_bin rfl rfl rfl ?_
                refine S_as rfl ?_
                refine S_nil (hK40 _ _ (V_keep [2, 8, 149] (by simp only [proj, lk, reduceIte, Nat.reduceEqDiff]; rfl) ?_)); clear hK40
                refine V_condp rfl (fun c218 => ?_) (fun c218 => ?_)
                · skip
                  refine V_reg T.mix (by kernel_rfl) ?_
                  refine S_mv rfl ?_
                  refine S_mv rfl ?_
                  refine S_nc rfl ?_
                  first | refine S_fa0 T.f38_1 rfl ?_ | refine S_fa T.f38_1 rfl ?_
                  refine S_ldK T.ag35 rfl (fun K' hK' => ?_)
                  simp (disch := omega) only [o0, o1, o2, o4, d0, d1, d2, d3, L0, L2, oP_some, Nat.add_zero]
                  refine hK' _ ?_; clear hK' K'
                  first | refine S_fa0 T.f42_1 rfl ?_ | refine S_fa T.f42_1 rfl ?_
                  refine S_ldK T.ag3 rfl (fun K' hK' => ?_)
                  simp (disch := omega) only [o0, o1, o2, o4, d0, d1, d2, d3, L0, L2, oP_some, Nat.add_zero]
                  refine hK' _ ?_; clear hK' K'
                  first | refine S_fa0 T.f42_2 rfl ?_ | refine S_fa T.f42_2 rfl ?_
                  refine S_ldK T.ag3 rfl (fun K' hK' => ?_)
                  simp (disch := omega) only [o0, o1, o2, o4, d0, d1, d2, d3, L0, L2, oP_some, Nat.add_zero]
                  refine hK' _ ?_; clear hK' K'
                  refine S_call T.hb18 rfl ?_
                  refine FC.mono (fill_spec h1 t.ra t.rc t.rg w.rg (by have := w.rl; omega) oa ob) ?_
                  rintro v h2 ⟨a2, c2, ys, rfl, hi2, hO2, hyl⟩
                  have hn2 : ∀ b, blkA a2 = some b → tg b = 5 ∨ (tg b = 0 ∧ base ≤ b) := fun b hb => by rcases hO2.2 b hb with e | e; (exact .inl (w.tr b e)); (exact .inr ⟨w.z e, by omega⟩)
                  have hd2 := w.dd.ext hO2.1 (fun e => by have := w.tr _ e; have := w.tD; omega)
                  have hok2 : okPut h2 ⟨D, 1, none⟩ = true := dok hd2 (by omega)
                  refine S_nc rfl ?_
                  first | refine S_fa0 T.f38_1 rfl ?_ | refine S_fa T.f38_1 rfl ?_
                  refine S_st T.sz35 rfl rfl rfl rfl (by simp (disch := omega) only [hok2]) ?_
                  generalize hh : putH _ _ _ = h3
                  have hEh3 : Ext (fun b => b = D) h2 h3 := by rw [← hh]; exact Ext.put _ _ rfl
                  have hdh3 : B h3 D (dcs { t with ra := a2, rc := c2, rg := ys }) 38 := by rw [← hh]; exact hd2.put 1 _
                  clear hh
                  have hlt2 : ∀ b, blkA a2 = some b → b ≠ D := fun b hb e => by subst e; have := hn2 _ hb; have := w.tD; omega
                  obtain ⟨tg3, w3, _, hE3⟩ := w.setReg (ra := a2) (rc := c2) (ys := ys) (h' := h3) ((hO2.1.mono fun b e => .inr e).trans (hEh3.mono fun b e => .inl e)) hdh3 (hi2.ext hEh3 (fun b hb e => hlt2 b hb e)) hn2 (by have := w.rl; omega)
                  have hEF := hEE.trans hE3
                  refine S_nilk [] (by simp only [proj, lk, reduceIte, Nat.reduceEqDiff]; rfl) ?_
                  refine hK2 _ _ ?_; clear hK2
                  refine V_sr T.mix (by kernel_rfl) (fun K41 hK41 => ?_)
                  refine S_as rfl ?_
                  refine S_nil (hK41 _ _ (V_keep [10] (by simp only [proj, lk, reduceIte, Nat.reduceEqDiff]; rfl) ?_)); clear hK41
                  refine V_ret ?_
                  refine hR _ _ (ret1 rfl rfl ?_)
                  exact ⟨rfl, tg3, a, cap, _, w3, hEF⟩
                · skip
                  refine V_skipk [] (by simp only [proj, lk, reduceIte, Nat.reduceEqDiff]; rfl) ?_
                  refine hK2 _ _ ?_; clear hK2
                  refine V_sr T.mix (by kernel_rfl) (fun K42 hK42 => ?_)
                  refine S_as rfl ?_
                  refine S_nil (hK42 _ _ (V_keep [10] (by simp only [proj, lk, reduceIte, Nat.reduceEqDiff]; rfl) ?_)); clear hK42
                  refine V_ret ?_
                  refine hR _ _ (ret1 rfl rfl ?_)
                  exact ⟨rfl, tg, a, cap, _, w, hEE⟩
set_option maxHeartbeats 400000 in
theorem ground_spec (h : Heap) :
    FC Try.prog 7 (#[] : Array Value) h fun v h' => v = .agg #[] ∧ Ext (fun _ => False) h h' := by
  refine FC_of [] Try.func7 rfl Try.ntmps7 (by simp) rfl (fun R hR => ?_)
  refine V_sr T.mix (by kernel_rfl) (fun K1 hK1 => ?_)
  refine S_allocA T.z28 ?_
  generalize hh : Array.push h _ = h1
  have hB : B h1 h.size #[] 28 := by rw [← hh]; exact B.new _ _ _
  have hE1 : Ext (fun _ => False) h h1 := by rw [← hh]; exact Ext.push _ _ _
  clear hh
  refine S_nil (hK1 _ _ (V_keep [0] (by simp only [proj, lk, reduceIte, Nat.reduceEqDiff]; rfl) ?_)); clear hK1
  refine V_sr T.mix (by kernel_rfl) (fun K2 hK2 => ?_)
  refine S_bld rfl (T.bld28) ?_
  refine S_stl (vs := []) T.sz28 rfl rfl rfl rfl (fun j hj => absurd hj (by omega)) ?_
  refine S_nil (hK2 _ _ (V_keep [0] (by simp only [proj, lk, reduceIte, Nat.reduceEqDiff]; rfl) ?_)); clear hK2
  refine V_ret ?_
  refine hR _ _ (retc1 rfl rfl T.ag28 hB (by rfl) ?_)
  exact ⟨rfl, hE1⟩
set_option maxHeartbeats 400000 in
theorem walk_spec (h : Heap) (sa : Option Addr) (n cap : Nat) (q : Bool) (hs : Scr h.size h sa n) (hn : n ≤ 9223372036854775807) :
    FC Try.prog 6 (#[.slice sa n cap, .bool (decide (q = true))] : Array Value) h fun v h' => (∃ j : Int, v = .tuple #[.int .i64 (-1), .int .i64 j]) ∧ Ext (fun b => h.size ≤ b) h h' := by
  refine FC_of [(0, .slice sa n cap), (1, .bool (decide (q = true)))] Try.func6 rfl Try.ntmps6 (by simp) rfl (fun R hR => ?_)
  refine V_sr T.mix (by kernel_rfl) (fun K1 hK1 => ?_)
  refine S_as rfl ?_
  refine S_as rfl ?_
  refine S_nil (hK1 _ _ (V_keep [0, 1] (by simp only [proj, lk, reduceIte, Nat.reduceEqDiff]; rfl) ?_)); clear hK1
  refine V_sr T.mix (by kernel_rfl) (fun K2 hK2 => ?_)
  refine S_call T.hb7 rfl ?_
  refine FC.mono (ground_spec h) ?_
  rintro v h0 ⟨rfl, hE0⟩
  refine S_nil (hK2 _ _ (V_keep [0, 1] (by simp only [proj, lk, reduceIte, Nat.reduceEqDiff]; rfl) ?_)); clear hK2
  refine V_sr T.mix (by kernel_rfl) (fun K3 hK3 => ?_)
  refine S_call T.hb8 rfl ?_
  refine FC.mono (new_spec h0) ?_
  rintro v h1 ⟨rfl, hP, hE1⟩
  refine S_as rfl ?_
  refine S_nil (hK3 _ _ (V_keep [0, 1, 6] (by simp only [proj, lk, reduceIte, Nat.reduceEqDiff]; rfl) ?_)); clear hK3
  refine V_sr T.mix (by kernel_rfl) (fun K4 hK4 => ?_)
  refine S_call T.hb9 rfl ?_
  refine FC.mono (mnew_spec h1) ?_
  rintro v h2 ⟨rfl, hM, hE2⟩
  refine S_as rfl ?_
  refine S_nil (hK4 _ _ (V_keep [0, 1, 6, 7] (by simp only [proj, lk, reduceIte, Nat.reduceEqDiff]; rfl) ?_)); clear hK4
  refine V_sr T.mix (by kernel_rfl) (fun K5 hK5 => ?_)
  refine S_bld rfl (T.bld38) ?_
  refine S_boxA rfl ?_
  generalize hh : Array.push h2 _ = h3
  have hB : B h3 h2.size (dcs ds0) 38 := by rw [← hh]; exact B.new _ _ _
  have hE3 : Ext (fun _ => False) h2 h3 := by rw [← hh]; exact Ext.push _ _ _
  clear hh
  obtain ⟨tg0, w0⟩ := wi0 (base := h.size) ((hP.ext hE2 (fun f => f) (fun _ _ f => f)).ext hE3 (fun f => f) (fun _ _ f => f)) (hM.ext hE3 (fun f => f)) hB hE0.1 hP.s.lt hM.lt
  have hE : Ext (fun b => h.size ≤ b) h h3 := (((hE0.trans hE1).trans hE2).trans hE3).mono fun _ f => f.elim
  refine S_as rfl ?_
  refine S_nil (hK5 _ _ (V_keep [0, 1, 6, 7, 8] (by simp only [proj, lk, reduceIte, Nat.reduceEqDiff]; rfl) ?_)); clear hK5
  refine V_seq (fun K6 hK6 => ?_)
  refine V_sr T.mix (by kernel_rfl) (fun K7 hK7 => ?_)
  refine S_mv rfl ?_
  refine S_not rfl ?_
  refine S_nil (hK7 _ _ (V_keep [0, 1, 6, 7, 8, 16] (by simp only [proj, lk, reduceIte, Nat.reduceEqDiff]; rfl) ?_)); clear hK7
  refine V_condp rfl (fun c231 => ?_) (fun c231 => ?_)
  · skip
    refine V_sr T.mix (by kernel_rfl) (fun K8 hK8 => ?_)
    refine S_mv rfl ?_
    refine S_call T.hb10 rfl ?_
    refine FC.mono (check_spec h3 h0.size none 0 w0.P) ?_
    rintro v h' ⟨rfl, rfl⟩
    refine S_notb rfl ?_
    refine S_nil (hK8 _ _ (V_keep [0, 1, 6, 7, 8, 19] (by simp only [proj, lk, reduceIte, Nat.reduceEqDiff]; rfl) ?_)); clear hK8
    refine V_condb rfl (fun c232 => ?_) (fun c232 => ?_)
    · skip
      cases c232
    · skip
      refine V_skipk [0, 1, 6, 7, 8] (by simp only [proj, lk, reduceIte, Nat.reduceEqDiff]; rfl) ?_
      refine hK6 _ _ ?_; clear hK6
      refine V_seq (fun K9 hK9 => ?_)
      refine V_sr T.mix (by kernel_rfl) (fun K10 hK10 => ?_)
      refine S_as rfl ?_
      refine S_nil (hK10 _ _ (V_keep [0, 1, 6, 7, 8, 9] (by simp only [proj, lk, reduceIte, Nat.reduceEqDiff]; rfl) ?_)); clear hK10
      refine V_block ?_
      refine V_loop (fun m l h' => ∃ (i : Nat) (hk : Heap) (tgk : Nat → Nat) (ak : Option Addr) (ck : Nat) (tk : DS), (i ≤ n) ∧ (i ≤ 4398046511104) ∧ (WI h.size hk tgk h0.size h1.size h2.size ak ck tk) ∧ (Ext (fun b => h.size ≤ b) h hk) ∧ m = n - i ∧ l = [(0, .slice sa n cap), (1, .bool (decide (q = true))), (6, .pointer (some ⟨h0.size, 0, none⟩)), (7, .pointer (some ⟨h1.size, 0, none⟩)), (8, .pointer (some ⟨h2.size, 0, none⟩)), (9, .int .i64 i)] ∧ hk = h') _ ⟨0, h3, tg0, none, 0, ds0, by omega, by omega, w0, hE, rfl, rfl, rfl⟩ ?_
      rintro m l h' ⟨i, hk, tgk, ak, ck, tk, hi, hi2, wk, hEk, rfl, rfl, rfl⟩ K11 hK11
      refine V_seq (fun K12 hK12 => ?_)
      refine V_sr T.mix (by kernel_rfl) (fun K13 hK13 => ?_)
      refine S_cut (K' := fun l h' => ∃ b : Bool, (b = true ↔ (i < n ∧ i < 4398046511104)) ∧ l = [(0, .slice sa n cap), (1, .bool (decide (q = true))), (6, .pointer (some ⟨h0.size, 0, none⟩)), (7, .pointer (some ⟨h1.size, 0, none⟩)), (8, .pointer (some ⟨h2.size, 0, none⟩)), (9, .int .i64 i), (27, .bool b)] ∧ hk = h') ?_ ?_
      · skip
        refine S_mv rfl ?_
        refine S_mv rfl ?_
        refine S_lenl T.el22 rfl ?_
        refine S_bin rfl rfl rfl ?_
        refine S_mv rfl ?_
        refine S_dec (fun g236 => ?_) (fun g236 => ?_)
        · skip
          refine S_gt rfl ?_
          refine S_mv rfl ?_
          refine S_gt rfl ?_
          refine S_bin rfl rfl rfl ?_
          refine S_pt rfl rfl ?_
          exact S_nilk [0, 1, 6, 7, 8, 9, 27] (by simp only [proj, lk, reduceIte, Nat.reduceEqDiff]; rfl) ⟨_, (by first | (simp [*]; done) | (simp; omega)), rfl, rfl⟩
        · skip
          refine S_gf rfl ?_
          refine S_gf rfl ?_
          refine S_pf rfl rfl ?_
          exact S_nilk [0, 1, 6, 7, 8, 9, 27] (by simp only [proj, lk, reduceIte, Nat.reduceEqDiff]; rfl) ⟨_, (by first | (simp [*]; done) | (simp; omega)), rfl, rfl⟩
      rintro l h' ⟨b, hb236, rfl, rfl⟩
      refine hK13 _ _ ?_; clear hK13
      refine V_condb rfl (fun c236 => ?_) (fun c236 => ?_)
      · replace c236 := hb236.1 c236
        refine V_skipk [0, 1, 6, 7, 8, 9] (by simp only [proj, lk, reduceIte, Nat.reduceEqDiff]; rfl) ?_
        refine hK12 _ _ ?_; clear hK12
        refine V_seq (fun K15 hK15 => ?_)
        refine V_block ?_
        refine V_seq (fun K16 hK16 => ?_)
        refine V_sr T.mix (by kernel_rfl) (fun K17 hK17 => ?_)
        refine S_mv rfl ?_
        refine S_mv rfl ?_
        refine S_mv rfl ?_
        refine S_mv rfl ?_
        refine S_mv rfl ?_
        obtain ⟨sb, so, rfl, hlt, k, a, b, c, s, u, hc⟩ := (hs.ext (Nat.le_refl _) hEk) i (by first | exact c236.1 | exact c236a.1)
        refine S_ix T.el22 rfl rfl (by omega) (by omega) ?_
        refine S_ldn T.ag42 rfl (by simpa using hc) ?_
        refine S_mv rfl ?_
        refine S_call T.hb11 rfl ?_
        refine FC.mono (play_spec h.size hk tgk h0.size h1.size h2.size ak ck tk wk k a b c s u q) ?_
        rintro v h4 ⟨rfl, tg4, a4, c4, t4, w4, hE4⟩
        replace hE4 := hEk.trans hE4
        refine S_notb rfl ?_
        refine S_nil (hK17 _ _ (V_keep [0, 1, 6, 7, 8, 9, 39] (by simp only [proj, lk, reduceIte, Nat.reduceEqDiff]; rfl) ?_)); clear hK17
        refine V_condb rfl (fun c237 => ?_) (fun c237 => ?_)
        · skip
          cases c237
        · skip
          refine V_skipk [0, 1, 6, 7, 8, 9] (by simp only [proj, lk, reduceIte, Nat.reduceEqDiff]; rfl) ?_
          refine hK16 _ _ ?_; clear hK16
          refine V_sr T.mix (by kernel_rfl) (fun K18 hK18 => ?_)
          refine S_mv rfl ?_
          refine S_not rfl ?_
          refine S_nil (hK18 _ _ (V_keep [0, 1, 6, 7, 8, 9, 43] (by simp only [proj, lk, reduceIte, Nat.reduceEqDiff]; rfl) ?_)); clear hK18
          refine V_condp rfl (fun c240 => ?_) (fun c240 => ?_)
          · skip
            refine V_sr T.mix (by kernel_rfl) (fun K19 hK19 => ?_)
            refine S_mv rfl ?_
            refine S_call T.hb10 rfl ?_
            refine FC.mono (check_spec h4 h0.size a4 c4 w4.P) ?_
            rintro v h' ⟨rfl, rfl⟩
            refine S_notb rfl ?_
            refine S_nil (hK19 _ _ (V_keep [0, 1, 6, 7, 8, 9, 46] (by simp only [proj, lk, reduceIte, Nat.reduceEqDiff]; rfl) ?_)); clear hK19
            refine V_condb rfl (fun c241 => ?_) (fun c241 => ?_)
            · skip
              cases c241
            · skip
              refine V_skipk [0, 1, 6, 7, 8, 9] (by simp only [proj, lk, reduceIte, Nat.reduceEqDiff]; rfl) ?_
              refine hK15 _ _ ?_; clear hK15
              refine V_reg T.mix (by kernel_rfl) ?_
              refine S_mv rfl ?_
              first | refine S_add rfl rfl (by omega) (by omega) ?_ | refine S_bin rfl rfl rfl ?_
              refine S_as rfl ?_
              refine S_nilk [0, 1, 6, 7, 8, 9] (by simp only [proj, lk, reduceIte, Nat.reduceEqDiff]; rfl) ?_
              exact hK11 _ _ ⟨_, by omega, i + 1, h4, tg4, a4, c4, t4, by omega, by omega, w4, hE4, rfl, rfl, rfl⟩
          · skip
            refine V_skipk [0, 1, 6, 7, 8, 9] (by simp only [proj, lk, reduceIte, Nat.reduceEqDiff]; rfl) ?_
            refine hK15 _ _ ?_; clear hK15
            refine V_reg T.mix (by kernel_rfl) ?_
            refine S_mv rfl ?_
            first | refine S_add rfl rfl (by omega) (by omega) ?_ | refine S_bin rfl rfl rfl ?_
            refine S_as rfl ?_
            refine S_nilk [0, 1, 6, 7, 8, 9] (by simp only [proj, lk, reduceIte, Nat.reduceEqDiff]; rfl) ?_
            exact hK11 _ _ ⟨_, by omega, i + 1, h4, tg4, a4, c4, t4, by omega, by omega, w4, hE4, rfl, rfl, rfl⟩
      · replace c236 : ¬ _ := fun hp => Bool.false_ne_true (c236.symm.trans (hb236.2 hp))
        refine V_exitk [0] rfl (by simp only [proj, lk, reduceIte, Nat.reduceEqDiff]; rfl) ?_
        refine hK9 _ _ ?_; clear hK9
        refine V_seq (fun K20 hK20 => ?_)
        refine V_sr T.mix (by kernel_rfl) (fun K21 hK21 => ?_)
        refine S_mv rfl ?_
        refine S_lenl T.el22 rfl ?_
        refine S_bin rfl rfl rfl ?_
        refine S_nil (hK21 _ _ (V_keep [0, 51] (by simp only [proj, lk, reduceIte, Nat.reduceEqDiff]; rfl) ?_)); clear hK21
        refine V_condp rfl (fun c246 => ?_) (fun c246 => ?_)
        · skip
          refine V_sr T.mix (by kernel_rfl) (fun K22 hK22 => ?_)
          refine S_mv rfl ?_
          refine S_lenl T.el22 rfl ?_
          refine S_as rfl ?_
          refine S_as rfl ?_
          refine S_nil (hK22 _ _ (V_keep [4, 5] (by simp only [proj, lk, reduceIte, Nat.reduceEqDiff]; rfl) ?_)); clear hK22
          refine V_ret ?_
          refine hR _ _ (ret2 rfl rfl rfl ?_)
          exact ⟨⟨_, rfl⟩, hEk⟩
        · skip
          refine V_skipk [] (by simp only [proj, lk, reduceIte, Nat.reduceEqDiff]; rfl) ?_
          refine hK20 _ _ ?_; clear hK20
          refine V_sr T.mix (by kernel_rfl) (fun K23 hK23 => ?_)
          refine S_as rfl ?_
          refine S_as rfl ?_
          refine S_nil (hK23 _ _ (V_keep [4, 5] (by simp only [proj, lk, reduceIte, Nat.reduceEqDiff]; rfl) ?_)); clear hK23
          refine V_ret ?_
          refine hR _ _ (ret2 rfl rfl rfl ?_)
          exact ⟨⟨_, rfl⟩, hEk⟩
  · skip
    refine V_skipk [0, 1, 6, 7, 8] (by simp only [proj, lk, reduceIte, Nat.reduceEqDiff]; rfl) ?_
    refine hK6 _ _ ?_; clear hK6
    refine V_seq (fun K24 hK24 => ?_)
    refine V_sr T.mix (by kernel_rfl) (fun K25 hK25 => ?_)
    refine S_as rfl ?_
    refine S_nil (hK25 _ _ (V_keep [0, 1, 6, 7, 8, 9] (by simp only [proj, lk, reduceIte, Nat.reduceEqDiff]; rfl) ?_)); clear hK25
    refine V_block ?_
    refine V_loop (fun m l h' => ∃ (i : Nat) (hk : Heap) (tgk : Nat → Nat) (ak : Option Addr) (ck : Nat) (tk : DS), (i ≤ n) ∧ (i ≤ 4398046511104) ∧ (WI h.size hk tgk h0.size h1.size h2.size ak ck tk) ∧ (Ext (fun b => h.size ≤ b) h hk) ∧ m = n - i ∧ l = [(0, .slice sa n cap), (1, .bool (decide (q = true))), (6, .pointer (some ⟨h0.size, 0, none⟩)), (7, .pointer (some ⟨h1.size, 0, none⟩)), (8, .pointer (some ⟨h2.size, 0, none⟩)), (9, .int .i64 i)] ∧ hk = h') _ ⟨0, h3, tg0, none, 0, ds0, by omega, by omega, w0, hE, rfl, rfl, rfl⟩ ?_
    rintro m l h' ⟨i, hk, tgk, ak, ck, tk, hi, hi2, wk, hEk, rfl, rfl, rfl⟩ K26 hK26
    refine V_seq (fun K27 hK27 => ?_)
    refine V_sr T.mix (by kernel_rfl) (fun K28 hK28 => ?_)
    refine S_cut (K' := fun l h' => ∃ b : Bool, (b = true ↔ (i < n ∧ i < 4398046511104)) ∧ l = [(0, .slice sa n cap), (1, .bool (decide (q = true))), (6, .pointer (some ⟨h0.size, 0, none⟩)), (7, .pointer (some ⟨h1.size, 0, none⟩)), (8, .pointer (some ⟨h2.size, 0, none⟩)), (9, .int .i64 i), (27, .bool b)] ∧ hk = h') ?_ ?_
    · skip
      refine S_mv rfl ?_
      refine S_mv rfl ?_
      refine S_lenl T.el22 rfl ?_
      refine S_bin rfl rfl rfl ?_
      refine S_mv rfl ?_
      refine S_dec (fun g236a => ?_) (fun g236a => ?_)
      · skip
        refine S_gt rfl ?_
        refine S_mv rfl ?_
        refine S_gt rfl ?_
        refine S_bin rfl rfl rfl ?_
        refine S_pt rfl rfl ?_
        exact S_nilk [0, 1, 6, 7, 8, 9, 27] (by simp only [proj, lk, reduceIte, Nat.reduceEqDiff]; rfl) ⟨_, (by first | (simp [*]; done) | (simp; omega)), rfl, rfl⟩
      · skip
        refine S_gf rfl ?_
        refine S_gf rfl ?_
        refine S_pf rfl rfl ?_
        exact S_nilk [0, 1, 6, 7, 8, 9, 27] (by simp only [proj, lk, reduceIte, Nat.reduceEqDiff]; rfl) ⟨_, (by first | (simp [*]; done) | (simp; omega)), rfl, rfl⟩
    rintro l h' ⟨b, hb236, rfl, rfl⟩
    refine hK28 _ _ ?_; clear hK28
    refine V_condb rfl (fun c236a => ?_) (fun c236a => ?_)
    · replace c236a := hb236.1 c236a
      refine V_skipk [0, 1, 6, 7, 8, 9] (by simp only [proj, lk, reduceIte, Nat.reduceEqDiff]; rfl) ?_
      refine hK27 _ _ ?_; clear hK27
      refine V_seq (fun K30 hK30 => ?_)
      refine V_block ?_
      refine V_seq (fun K31 hK31 => ?_)
      refine V_sr T.mix (by kernel_rfl) (fun K32 hK32 => ?_)
      refine S_mv rfl ?_
      refine S_mv rfl ?_
      refine S_mv rfl ?_
      refine S_mv rfl ?_
      refine S_mv rfl ?_
      obtain ⟨sb, so, rfl, hlt, k, a, b, c, s, u, hc⟩ := (hs.ext (Nat.le_refl _) hEk) i (by first | exact c236.1 | exact c236a.1)
      refine S_ix T.el22 rfl rfl (by omega) (by omega) ?_
      refine S_ldn T.ag42 rfl (by simpa using hc) ?_
      refine S_mv rfl ?_
      refine S_call T.hb11 rfl ?_
      refine FC.mono (play_spec h.size hk tgk h0.size h1.size h2.size ak ck tk wk k a b c s u q) ?_
      rintro v h4 ⟨rfl, tg4, a4, c4, t4, w4, hE4⟩
      replace hE4 := hEk.trans hE4
      refine S_notb rfl ?_
      refine S_nil (hK32 _ _ (V_keep [0, 1, 6, 7, 8, 9, 39] (by simp only [proj, lk, reduceIte, Nat.reduceEqDiff]; rfl) ?_)); clear hK32
      refine V_condb rfl (fun c237a => ?_) (fun c237a => ?_)
      · skip
        cases c237a
      · skip
        refine V_skipk [0, 1, 6, 7, 8, 9] (by simp only [proj, lk, reduceIte, Nat.reduceEqDiff]; rfl) ?_
        refine hK31 _ _ ?_; clear hK31
        refine V_sr T.mix (by kernel_rfl) (fun K33 hK33 => ?_)
        refine S_mv rfl ?_
        refine S_not rfl ?_
        refine S_nil (hK33 _ _ (V_keep [0, 1, 6, 7, 8, 9, 43] (by simp only [proj, lk, reduceIte, Nat.reduceEqDiff]; rfl) ?_)); clear hK33
        refine V_condp rfl (fun c240a => ?_) (fun c240a => ?_)
        · skip
          refine V_sr T.mix (by kernel_rfl) (fun K34 hK34 => ?_)
          refine S_mv rfl ?_
          refine S_call T.hb10 rfl ?_
          refine FC.mono (check_spec h4 h0.size a4 c4 w4.P) ?_
          rintro v h' ⟨rfl, rfl⟩
          refine S_notb rfl ?_
          refine S_nil (hK34 _ _ (V_keep [0, 1, 6, 7, 8, 9, 46] (by simp only [proj, lk, reduceIte, Nat.reduceEqDiff]; rfl) ?_)); clear hK34
          refine V_condb rfl (fun c241a => ?_) (fun c241a => ?_)
          · skip
            cases c241a
          · skip
            refine V_skipk [0, 1, 6, 7, 8, 9] (by simp only [proj, lk, reduceIte, Nat.reduceEqDiff]; rfl) ?_
            refine hK30 _ _ ?_; clear hK30
            refine V_reg T.mix (by kernel_rfl) ?_
            refine S_mv rfl ?_
            first | refine S_add rfl rfl (by omega) (by omega) ?_ | refine S_bin rfl rfl rfl ?_
            refine S_as rfl ?_
            refine S_nilk [0, 1, 6, 7, 8, 9] (by simp only [proj, lk, reduceIte, Nat.reduceEqDiff]; rfl) ?_
            exact hK26 _ _ ⟨_, by omega, i + 1, h4, tg4, a4, c4, t4, by omega, by omega, w4, hE4, rfl, rfl, rfl⟩
        · skip
          refine V_skipk [0, 1, 6, 7, 8, 9] (by simp only [proj, lk, reduceIte, Nat.reduceEqDiff]; rfl) ?_
          refine hK30 _ _ ?_; clear hK30
          refine V_reg T.mix (by kernel_rfl) ?_
          refine S_mv rfl ?_
          first | refine S_add rfl rfl (by omega) (by omega) ?_ | refine S_bin rfl rfl rfl ?_
          refine S_as rfl ?_
          refine S_nilk [0, 1, 6, 7, 8, 9] (by simp only [proj, lk, reduceIte, Nat.reduceEqDiff]; rfl) ?_
          exact hK26 _ _ ⟨_, by omega, i + 1, h4, tg4, a4, c4, t4, by omega, by omega, w4, hE4, rfl, rfl, rfl⟩
    · replace c236a : ¬ _ := fun hp => Bool.false_ne_true (c236a.symm.trans (hb236.2 hp))
      refine V_exitk [0] rfl (by simp only [proj, lk, reduceIte, Nat.reduceEqDiff]; rfl) ?_
      refine hK24 _ _ ?_; clear hK24
      refine V_seq (fun K35 hK35 => ?_)
      refine V_sr T.mix (by kernel_rfl) (fun K36 hK36 => ?_)
      refine S_mv rfl ?_
      refine S_lenl T.el22 rfl ?_
      refine S_bin rfl rfl rfl ?_
      refine S_nil (hK36 _ _ (V_keep [0, 51] (by simp only [proj, lk, reduceIte, Nat.reduceEqDiff]; rfl) ?_)); clear hK36
      refine V_condp rfl (fun c246a => ?_) (fun c246a => ?_)
      · skip
        refine V_sr T.mix (by kernel_rfl) (fun K37 hK37 => ?_)
        refine S_mv rfl ?_
        refine S_lenl T.el22 rfl ?_
        refine S_as rfl ?_
        refine S_as rfl ?_
        refine S_nil (hK37 _ _ (V_keep [4, 5] (by simp only [proj, lk, reduceIte, Nat.reduceEqDiff]; rfl) ?_)); clear hK37
        refine V_ret ?_
        refine hR _ _ (ret2 rfl rfl rfl ?_)
        exact ⟨⟨_, rfl⟩, hEk⟩
      · skip
        refine V_skipk [] (by simp only [proj, lk, reduceIte, Nat.reduceEqDiff]; rfl) ?_
        refine hK35 _ _ ?_; clear hK35
        refine V_sr T.mix (by kernel_rfl) (fun K38 hK38 => ?_)
        refine S_as rfl ?_
        refine S_as rfl ?_
        refine S_nil (hK38 _ _ (V_keep [4, 5] (by simp only [proj, lk, reduceIte, Nat.reduceEqDiff]; rfl) ?_)); clear hK38
        refine V_ret ?_
        refine hR _ _ (ret2 rfl rfl rfl ?_)
        exact ⟨⟨_, rfl⟩, hEk⟩
set_option maxHeartbeats 400000 in
theorem rut_spec (h : Heap) (sa : Option Addr) (n cap : Nat) (hs : Scr h.size h sa n) (hn : n ≤ 9223372036854775807) :
    FC Try.prog 5 (#[.slice sa n cap] : Array Value) h fun v h' => v = .int .i64 (-1) ∧ Ext (fun b => h.size ≤ b) h h' := by
  refine FC_of [(0, .slice sa n cap)] Try.func5 rfl Try.ntmps5 (by simp) rfl (fun R hR => ?_)
  refine V_sr T.mix (by kernel_rfl) (fun K1 hK1 => ?_)
  refine S_as rfl ?_
  refine S_nil (hK1 _ _ (V_keep [0] (by simp only [proj, lk, reduceIte, Nat.reduceEqDiff]; rfl) ?_)); clear hK1
  refine V_sr T.mix (by kernel_rfl) (fun K2 hK2 => ?_)
  refine S_mv rfl ?_
  refine S_call T.hb6 rfl ?_
  refine FC.mono (walk_spec h sa n cap false hs hn) ?_
  rintro v h2 ⟨⟨j, rfl⟩, hE⟩
  refine S_mv rfl ?_
  refine S_ex rfl rfl ?_
  refine S_ex rfl rfl ?_
  refine S_as rfl ?_
  refine S_as rfl ?_
  refine S_nil (hK2 _ _ (V_keep [3] (by simp only [proj, lk, reduceIte, Nat.reduceEqDiff]; rfl) ?_)); clear hK2
  refine V_sr T.mix (by kernel_rfl) (fun K3 hK3 => ?_)
  refine S_mv rfl ?_
  refine S_as rfl ?_
  refine S_nil (hK3 _ _ (V_keep [2] (by simp only [proj, lk, reduceIte, Nat.reduceEqDiff]; rfl) ?_)); clear hK3
  refine V_ret ?_
  refine hR _ _ (ret1 rfl rfl ?_)
  exact ⟨rfl, hE⟩
set_option maxHeartbeats 400000 in
theorem ref_spec (h : Heap) (sa : Option Addr) (n cap : Nat) (hs : Scr h.size h sa n) (hn : n ≤ 9223372036854775807) :
    FC Try.prog 3 (#[.slice sa n cap] : Array Value) h fun v h' => v = .bool true ∧ Ext (fun b => h.size ≤ b) h h' := by
  refine FC_of [(0, .slice sa n cap)] Try.func3 rfl Try.ntmps3 (by simp) rfl (fun R hR => ?_)
  refine V_sr T.mix (by kernel_rfl) (fun K1 hK1 => ?_)
  refine S_as rfl ?_
  refine S_nil (hK1 _ _ (V_keep [0] (by simp only [proj, lk, reduceIte, Nat.reduceEqDiff]; rfl) ?_)); clear hK1
  refine V_sr T.mix (by kernel_rfl) (fun K2 hK2 => ?_)
  refine S_mv rfl ?_
  refine S_call T.hb5 rfl ?_
  refine FC.mono (rut_spec h sa n cap hs hn) ?_
  rintro v h2 ⟨rfl, hE⟩
  refine S_bin rfl rfl rfl ?_
  refine S_as rfl ?_
  refine S_nil (hK2 _ _ (V_keep [2] (by simp only [proj, lk, reduceIte, Nat.reduceEqDiff]; rfl) ?_)); clear hK2
  refine V_ret ?_
  refine hR _ _ (ret1 rfl rfl ?_)
  exact ⟨rfl, hE⟩
set_option maxHeartbeats 400000 in
theorem refq_spec (h : Heap) (sa : Option Addr) (n cap : Nat) (hs : Scr h.size h sa n) (hn : n ≤ 9223372036854775807) :
    FC Try.prog 4 (#[.slice sa n cap] : Array Value) h fun v h' => v = .bool true ∧ Ext (fun b => h.size ≤ b) h h' := by
  refine FC_of [(0, .slice sa n cap)] Try.func4 rfl Try.ntmps4 (by simp) rfl (fun R hR => ?_)
  refine V_sr T.mix (by kernel_rfl) (fun K1 hK1 => ?_)
  refine S_as rfl ?_
  refine S_nil (hK1 _ _ (V_keep [0] (by simp only [proj, lk, reduceIte, Nat.reduceEqDiff]; rfl) ?_)); clear hK1
  refine V_sr T.mix (by kernel_rfl) (fun K2 hK2 => ?_)
  refine S_mv rfl ?_
  refine S_call T.hb6 rfl ?_
  refine FC.mono (walk_spec h sa n cap true hs hn) ?_
  rintro v h2 ⟨⟨j, rfl⟩, hE⟩
  refine S_mv rfl ?_
  refine S_ex rfl rfl ?_
  refine S_ex rfl rfl ?_
  refine S_as rfl ?_
  refine S_as rfl ?_
  refine S_nil (hK2 _ _ (V_keep [3] (by simp only [proj, lk, reduceIte, Nat.reduceEqDiff]; rfl) ?_)); clear hK2
  refine V_sr T.mix (by kernel_rfl) (fun K3 hK3 => ?_)
  refine S_mv rfl ?_
  refine S_bin rfl rfl rfl ?_
  refine S_as rfl ?_
  refine S_nil (hK3 _ _ (V_keep [2] (by simp only [proj, lk, reduceIte, Nat.reduceEqDiff]; rfl) ?_)); clear hK3
  refine V_ret ?_
  refine hR _ _ (ret1 rfl rfl ?_)
  exact ⟨rfl, hE⟩
end Go.Proofs.Qxb6500399a
