import Derived.Test.Qxb6500400aGreatYn
import Derived.Test.Qxb6500400aGreatEo
set_option linter.unusedVariables false
set_option linter.unusedSimpArgs false
namespace Go.Proofs.Qxb6500400aGreat
open Go.Eng Go.Trl Go.Chk Go.Wat

theorem oq {h : Heap} {b : Nat} {k oa ob oc : Int} {os ot : ByteArray} {t : TypeId} (hB : B h b #[.int .i64 k, .int .i64 oa, .int .i64 ob, .int .i64 oc, .string os, .string ot] t) : cellH h ⟨b, 0, none⟩ = some (.int .i64 k) ∧ cellH h ⟨b, 1, none⟩ = some (.int .i64 oa) ∧ cellH h ⟨b, 2, none⟩ = some (.int .i64 ob) ∧ cellH h ⟨b, 4, none⟩ = some (.string os) := ⟨hB.cell 0, hB.cell 1, hB.cell 2, hB.cell 4⟩
/-- the script, as it lies in the heap -/
def Scr (base : Nat) (h : Heap) (sa : Option Addr) (n : Nat) : Prop := ∀ i, i < n → ∃ sb so, sa = some ⟨sb, so, none⟩ ∧ sb < base ∧ ∃ k a b c s u, cellsH h ⟨sb, so + i * 6, none⟩ 0 6 = some [.int .i64 k, .int .i64 a, .int .i64 b, .int .i64 c, .string s, .string u]
theorem cellsH_same {h h' : Heap} {b o : Nat} (he : h'[b]? = h[b]?) : ∀ (n i : Nat), cellsH h' ⟨b, o, none⟩ i n = cellsH h ⟨b, o, none⟩ i n
  | 0, _ => rfl
  | n + 1, i => by
    have e : cellH h' ((⟨b, o, none⟩ : Addr).add i) = cellH h ((⟨b, o, none⟩ : Addr).add i) := by rw [add_mk]; unfold cellH; simp only [he]
    simp only [cellsH, e, cellsH_same he n (i + 1)]
theorem Scr.ext {base : Nat} {h h' : Heap} {sa : Option Addr} {n : Nat} (hs : Scr base h sa n) (hb : base ≤ h.size) (he : Ext (fun b => base ≤ b) h h') : Scr base h' sa n := by
  intro i hi
  obtain ⟨sb, so, e, hlt, k, a, b, c, s, u, hc⟩ := hs i hi
  exact ⟨sb, so, e, hlt, k, a, b, c, s, u, by rw [cellsH_same (he.2 sb (by omega) (by omega))]; exact hc⟩

theorem UI.low {h h1 h2 : Heap} {tg tg' : Nat → Nat} {A : UA} {u : US} {nb : Nat} (w : UI h tg A u nb) (hk : KP tg tg' h1 h2) : Ext (fun b => A.base ≤ b) h1 h2 := hk.1.mono fun b e => by
  rcases Nat.lt_or_ge b A.base with q | q
  · exact absurd (w.lo b q) e
  · exact q
/-- the first world -/
theorem UI.zero {h : Heap} {base U C X M Y K D : Nat} (hd : B h U #[.pointer (some ⟨X, 0, none⟩), .pointer (some ⟨C, 0, none⟩), .pointer (some ⟨K, 0, none⟩), .pointer (some ⟨Y, 0, none⟩), .pointer (some ⟨M, 0, none⟩), .pointer (some ⟨D, 0, none⟩), .slice none 0 0, .int .i64 (-1), .bool false, .slice none 0 0] 42) (hwb : WB h C X ⟨fun _ => 0, fun _ => 0, 0, 0, 0, fun _ => 0, 0⟩) (hrs : RS h X ⟨[], 0, 0⟩ 0) (hms : MS h Y (fun b => b = Y) ⟨[], 0, 0⟩) (hmb : MB h M Y ⟨fun _ => false, fun _ => none, fun _ => 0, fun _ => false, 0⟩) (hlb : LB h K C X LS.z 0) (hlm : LM h D Y M LC.z) (h1 : base ≤ X) (h2 : X < C) (h3 : C < U) (h4 : U < K) (h5 : K < Y) (h6 : Y < M) (h7 : M < D) (h8 : D < h.size) :
    ∃ tg, UI h tg ⟨base, U, C, X, M, Y, K, D⟩ ⟨⟨fun _ => 0, fun _ => 0, 0, 0, 0, fun _ => 0, 0⟩, ⟨fun _ => false, fun _ => none, fun _ => 0, fun _ => false, 0⟩, fun _ => none, ⟨[], 0, 0⟩, 0, fun _ => False, fun b => b = Y, LC.z, none, 0, [], -1, false, none, 0, []⟩ 0 := by
  obtain ⟨tg, t1, t2, t3, t4, t5, t7, t8, t0⟩ : ∃ tg : Nat → Nat, tg U = 1 ∧ tg C = 2 ∧ tg X = 3 ∧ tg M = 4 ∧ tg Y = 5 ∧ tg K = 7 ∧ tg D = 8 ∧ ∀ b, b ≠ U → b ≠ C → b ≠ X → b ≠ M → b ≠ Y → b ≠ K → b ≠ D → tg b = 0 := by
    refine ⟨fun b => if b = U then 1 else if b = C then 2 else if b = X then 3 else if b = M then 4 else if b = Y then 5 else if b = K then 7 else if b = D then 8 else 0, ?_, ?_, ?_, ?_, ?_, ?_, ?_, ?_⟩
    · simp
    · simp only []; rw [if_neg (by omega), if_pos trivial]
    · simp only []; rw [if_neg (by omega), if_neg (by omega), if_pos trivial]
    · simp only []; rw [if_neg (by omega), if_neg (by omega), if_neg (by omega), if_pos trivial]
    · simp only []; rw [if_neg (by omega), if_neg (by omega), if_neg (by omega), if_neg (by omega), if_pos trivial]
    · simp only []; rw [if_neg (by omega), if_neg (by omega), if_neg (by omega), if_neg (by omega), if_neg (by omega), if_pos trivial]
    · simp only []; rw [if_neg (by omega), if_neg (by omega), if_neg (by omega), if_neg (by omega), if_neg (by omega), if_neg (by omega), if_pos trivial]
    · intro b e1 e2 e3 e4 e5 e6 e7; simp only []; rw [if_neg e1, if_neg e2, if_neg e3, if_neg e4, if_neg e5, if_neg e6, if_neg e7]
  refine ⟨tg, ⟨hd, ⟨hwb, wi_zero rfl rfl rfl (fun _ _ => rfl) (fun _ _ => rfl) _ _, hrs, by simp only []; omega⟩, ⟨hmb, MR.zero (fun _ _ => rfl) (fun _ _ => ⟨rfl, rfl⟩) _, hms, ⟨fun f => f, fun e => by simp only [] at e; omega⟩, fun b f => f.elim, fun b f => f.elim⟩, hlb, hlm, IL.nil _, by simp, OwnR.nil _ _ _ _, by simp, by simp, fun i hi e => by simp [dueW] at e, Nat.le_refl _, by simp, Nat.le_refl _, fun _ => Sn.nil _, t1, t2, t3, t4, fun b e => by rw [e]; exact t5, fun b f => f.elim, t7, fun b e => ?_, by simp [blkA], by simp [blkA], by simp, fun b hb => t0 b (by omega) (by omega) (by omega) (by omega) (by omega) (by omega) (by omega), fun b hb => ?_, ?_⟩⟩
  · rcases e with e | e | e
    · rw [e]; exact t8
    · cases e
    · cases e
  · simp only [] at hb
    exact t0 b (by omega) (by omega) (by omega) (by omega) (by omega) (by omega) (by omega)
  · simp only []; omega
set_option maxHeartbeats 400000 in
theorem textjoin_spec (h : Heap) (s u : ByteArray) (hs : s.size ≤ 9223372036854775807) :
    FC Tryz.prog 31 (#[.string s, .string u] : Array Value) h fun v h' => (∃ r, v = .string r ∧ r.size ≤ max s.size 1048577) ∧ h = h' := by
  refine FC_of [(0, .string s), (1, .string u)] Tryz.func31 rfl Tryz.ntmps31 (by simp) rfl (fun R hR => ?_)
  refine V_sr T.mix (by kernel_rfl) (fun K1 hK1 => ?_)
  refine S_as rfl ?_
  refine S_nil (hK1 _ _ (V_keep [0, 1] (by simp only [proj, lk, reduceIte, Nat.reduceEqDiff]; rfl) ?_)); clear hK1
  refine V_sr T.mix (by kernel_rfl) (fun K2 hK2 => ?_)
  refine S_mv rfl ?_
  refine S_lens T.kd9 rfl ?_
  first | refine S_sub rfl rfl (by omega) (by omega) ?_ | refine S_bin rfl rfl rfl ?_
  refine S_as rfl ?_
  refine S_nil (hK2 _ _ (V_keep [0, 1, 5] (by simp only [proj, lk, reduceIte, Nat.reduceEqDiff]; rfl) ?_)); clear hK2
  refine V_seq (fun K3 hK3 => ?_)
  refine V_sr T.mix (by kernel_rfl) (fun K4 hK4 => ?_)
  refine S_mv rfl ?_
  refine S_bin rfl rfl rfl ?_
  refine S_nil (hK4 _ _ (V_keep [0, 1, 5, 10] (by simp only [proj, lk, reduceIte, Nat.reduceEqDiff]; rfl) ?_)); clear hK4
  refine V_condp rfl (fun c97 => ?_) (fun c97 => ?_)
  · skip
    refine V_sr T.mix (by kernel_rfl) (fun K5 hK5 => ?_)
    refine S_mv rfl ?_
    refine S_as rfl ?_
    refine S_nil (hK5 _ _ (V_keep [4] (by simp only [proj, lk, reduceIte, Nat.reduceEqDiff]; rfl) ?_)); clear hK5
    refine V_ret ?_
    refine hR _ _ (ret1 rfl rfl ?_)
    exact ⟨⟨_, rfl, by omega⟩, rfl⟩
  · skip
    refine V_skipk [0, 1, 5] (by simp only [proj, lk, reduceIte, Nat.reduceEqDiff]; rfl) ?_
    refine hK3 _ _ ?_; clear hK3
    refine V_seq (fun K6 hK6 => ?_)
    refine V_sr T.mix (by kernel_rfl) (fun K7 hK7 => ?_)
    refine S_mv rfl ?_
    refine S_lens T.kd9 rfl ?_
    refine S_mv rfl ?_
    refine S_bin rfl rfl rfl ?_
    refine S_nil (hK7 _ _ (V_keep [0, 1, 5, 15] (by simp only [proj, lk, reduceIte, Nat.reduceEqDiff]; rfl) ?_)); clear hK7
    refine V_condp rfl (fun c100 => ?_) (fun c100 => ?_)
    · skip
      refine V_reg T.mix (by kernel_rfl) ?_
      refine S_mv rfl ?_
      refine S_mv rfl ?_
      refine S_sl rfl rfl rfl (sliceV_strhi T.kd9 (by omega) (by omega)) ?_
      have hsz : (u.extract 0 (1048577 - (s.size : Int)).toNat).size ≤ 1048577 - s.size := by rw [ByteArray.size_extract]; omega
      refine S_as rfl ?_
      refine S_nilk [0, 1] (by simp only [proj, lk, reduceIte, Nat.reduceEqDiff]; rfl) ?_
      refine hK6 _ _ ?_; clear hK6
      refine V_sr T.mix (by kernel_rfl) (fun K8 hK8 => ?_)
      refine S_mv rfl ?_
      refine S_mv rfl ?_
      refine S_bin rfl rfl (strV_add (by omega)) ?_
      refine S_as rfl ?_
      refine S_nil (hK8 _ _ (V_keep [4] (by simp only [proj, lk, reduceIte, Nat.reduceEqDiff]; rfl) ?_)); clear hK8
      refine V_ret ?_
      refine hR _ _ (ret1 rfl rfl ?_)
      exact ⟨⟨_, rfl, by rw [ByteArray.size_append]; omega⟩, rfl⟩
    · skip
      refine V_skipk [0, 1] (by simp only [proj, lk, reduceIte, Nat.reduceEqDiff]; rfl) ?_
      refine hK6 _ _ ?_; clear hK6
      refine V_sr T.mix (by kernel_rfl) (fun K9 hK9 => ?_)
      refine S_mv rfl ?_
      refine S_mv rfl ?_
      refine S_bin rfl rfl (strV_add (by omega)) ?_
      refine S_as rfl ?_
      refine S_nil (hK9 _ _ (V_keep [4] (by simp only [proj, lk, reduceIte, Nat.reduceEqDiff]; rfl) ?_)); clear hK9
      refine V_ret ?_
      refine hR _ _ (ret1 rfl rfl ?_)
      exact ⟨⟨_, rfl, by rw [ByteArray.size_append]; omega⟩, rfl⟩
set_option maxHeartbeats 400000 in
theorem tape_spec (h : Heap) (X C : Nat) (sv : Value) :
    FC Tryz.prog 32 (#[.agg #[.pointer (some ⟨X, 0, none⟩), .pointer (some ⟨C, 0, none⟩)], sv] : Array Value) h fun rv h' => rv = .tuple #[] ∧ Ext (fun _ => False) h h' := by
  refine FC_of [(0, .agg #[.pointer (some ⟨X, 0, none⟩), .pointer (some ⟨C, 0, none⟩)]), (1, sv)] Tryz.func32 rfl Tryz.ntmps32 (by simp) rfl (fun R hR => ?_)
  refine V_keep [0] (by simp only [proj, lk, reduceIte, Nat.reduceEqDiff]; rfl) ?_
  refine V_reg T.mix (by kernel_rfl) ?_
  refine S_boxA rfl ?_
  generalize hh : Array.push h _ = h1
  have hO : B h1 h.size #[.pointer (some ⟨X, 0, none⟩), .pointer (some ⟨C, 0, none⟩)] 31 := by rw [← hh]; exact B.new _ _ _
  have hEh1 : Ext (fun _ => False) h h1 := by rw [← hh]; exact Ext.push _ _ _
  have hsh1 : h1.size = h.size + 1 := by rw [← hh]; simp
  clear hh
  refine S_nilk [] (by simp only [proj, lk, reduceIte, Nat.reduceEqDiff]; rfl) ?_
  -- end
  refine hR _ _ (ret0 rfl ?_)
  exact ⟨rfl, hEh1⟩
set_option maxHeartbeats 3200000 in
theorem play_spec (h : Heap) (tg : Nat → Nat) (A : UA) (u : US) (nb : Nat) (w : UI h tg A u nb) (k oa ob oc : Int) (os ot : ByteArray) (hnb : nb ≤ 900000000000000) (hqc : u.q.calls ≤ 1000) :
    FC Tryz.prog 14 (#[.pointer (some ⟨A.U, 0, none⟩), .agg #[.int .i64 k, .int .i64 oa, .int .i64 ob, .int .i64 oc, .string os, .string ot]] : Array Value) h fun rv h' => rv = .bool true ∧ ∃ (tg' : Nat → Nat) (u' : US), UI h' tg' A u' (nb + 12) ∧ KP tg tg' h h' := by
  have hhb := w.hb
  have hlt := w.lt1
  have hrl := w.rl
  refine FC_of [(0, .pointer (some ⟨A.U, 0, none⟩)), (1, .agg #[.int .i64 k, .int .i64 oa, .int .i64 ob, .int .i64 oc, .string os, .string ot])] Tryz.func14 rfl Tryz.ntmps14 (by simp) rfl (fun R hR => ?_)
  refine V_sr T.mix (by kernel_rfl) (fun K1 hK1 => ?_)
  refine S_boxA rfl ?_
  generalize hh : Array.push h _ = h1
  have hO : B h1 h.size #[.int .i64 k, .int .i64 oa, .int .i64 ob, .int .i64 oc, .string os, .string ot] 49 := by rw [← hh]; exact B.new _ _ _
  have hEh1 : Ext (fun _ => False) h h1 := by rw [← hh]; exact Ext.push _ _ _
  have hsh1 : h1.size = h.size + 1 := by rw [← hh]; simp
  clear hh
  have w1 := w.new hEh1
  have hkp1 : KP tg tg h h1 := KP.quiet hEh1
  try clear o0 o1 o2 o4
  obtain ⟨o0, o1, o2, o4⟩ := oq (hO)
  try clear u0 u1 u2 u3 u4 u5 u6 u7 u8 u9 huok
  obtain ⟨u0, u1, u2, u3, u4, u5, u6, u7, u8, u9, huok⟩ := uq (w1.dd)
  refine S_as rfl ?_
  refine S_nil (hK1 _ _ (V_keep [0, 3] (by simp only [proj, lk, reduceIte, Nat.reduceEqDiff]; rfl) ?_)); clear hK1
  refine V_seq (fun K2 hK2 => ?_)
  refine V_sr T.mix (by kernel_rfl) (fun K3 hK3 => ?_)
  first | refine S_fa0 T.f49_0 rfl ?_ | refine S_fa T.f49_0 rfl ?_
  refine S_ldK T.ag3 rfl (fun K' hK' => ?_)
  simp (disch := omega) only [u0, u1, u2, u3, u4, u5, u6, u7, u8, u9, o0, o1, o2, o4, oP_some, Nat.add_zero]
  refine hK' _ ?_; clear hK' K'
  refine S_nil (hK3 _ _ (V_keep [0, 3, 8] (by simp only [proj, lk, reduceIte, Nat.reduceEqDiff]; rfl) ?_)); clear hK3
  refine V_block ?_
  refine V_sr T.mix (by kernel_rfl) (fun K4 hK4 => ?_)
  refine S_bin rfl rfl rfl ?_
  refine S_as rfl ?_
  refine S_nil (hK4 _ _ (V_keep [0, 3, 8, 9] (by simp only [proj, lk, reduceIte, Nat.reduceEqDiff]; rfl) ?_)); clear hK4
  refine V_condp rfl (fun c422 => ?_) (fun c422 => ?_)
  · skip
    refine V_reg T.mix (by kernel_rfl) ?_
    refine S_mv rfl ?_
    refine S_mv rfl ?_
    refine S_nc rfl ?_
    first | refine S_fa0 T.f42_3 rfl ?_ | refine S_fa T.f42_3 rfl ?_
    refine S_ldK T.ag39 rfl (fun K' hK' => ?_)
    simp (disch := omega) only [u0, u1, u2, u3, u4, u5, u6, u7, u8, u9, o0, o1, o2, o4, oP_some, Nat.add_zero]
    refine hK' _ ?_; clear hK' K'
    first | refine S_fa0 T.f49_1 rfl ?_ | refine S_fa T.f49_1 rfl ?_
    refine S_ldK T.ag3 rfl (fun K' hK' => ?_)
    simp (disch := omega) only [u0, u1, u2, u3, u4, u5, u6, u7, u8, u9, o0, o1, o2, o4, oP_some, Nat.add_zero]
    refine hK' _ ?_; clear hK' K'
    refine S_call T.hb25 rfl ?_
    refine FC.mono (push_spec h1 u.ra u.rc u.rg w1.rg (by omega) oa) ?_
    rintro v' h2 ⟨ra2, rc2, ys, rfl, hI2, hys, hE2, hb2⟩
    have hD2 := w1.dd.ext hE2 (fun e => by have h8 := w.tr _ e; rw [w.tU] at h8; omega)
    try clear u0 u1 u2 u3 u4 u5 u6 u7 u8 u9 huok
    obtain ⟨u0, u1, u2, u3, u4, u5, u6, u7, u8, u9, huok⟩ := uq (hD2)
    refine S_nc rfl ?_
    first | refine S_fa0 T.f42_3 rfl ?_ | refine S_fa T.f42_3 rfl ?_
    refine S_st T.sz39 rfl rfl rfl rfl (by simp (disch := omega) only [huok]) ?_
    generalize hh : putH _ _ _ = h3
    have hD3 : B h3 A.U (ucs A { u with ra := ra2, rc := rc2, rg := ys }) 42 := by rw [← hh]; exact (hD2.put 6 _).cong (by simp [ucs])
    have hE3 : Ext (fun b => b = A.U) h2 h3 := by rw [← hh]; exact Ext.put _ _ rfl
    clear hh
    have hEr : Ext (fun b => b = A.U ∨ blkA u.ra = some b) h1 h3 := (hE2.mono fun _ e => .inr e).trans (hE3.mono fun _ e => .inl e)
    have hra2 : ∀ b, blkA ra2 = some b → b ≠ A.U := fun b e z => by rcases hb2 b e with q | q; (have h8 := w.tr b q; rw [z, w.tU] at h8; omega); (omega)
    obtain ⟨tg3, w3, ht3⟩ := w1.reg hEr hD3 (hI2.ext hE3 (fun b e => hra2 b e)) (by rw [hys]; split; (omega); (simp; omega)) hb2
    have hkp3 : KP tg tg3 h1 h3 := KP.of hEr (fun b e => by rcases e with e | e; (rw [e, w.tU]; omega); (rw [w.tr b e]; omega)) ht3
    refine S_nilk [] (by simp only [proj, lk, reduceIte, Nat.reduceEqDiff]; rfl) ?_
    refine hK2 _ _ ?_; clear hK2
    refine V_sr T.mix (by kernel_rfl) (fun K5 hK5 => ?_)
    refine S_as rfl ?_
    refine S_nil (hK5 _ _ (V_keep [4] (by simp only [proj, lk, reduceIte, Nat.reduceEqDiff]; rfl) ?_)); clear hK5
    refine V_ret ?_
    refine hR _ _ (ret1 rfl rfl ?_)
    exact ⟨rfl, tg3, _, w3.up (by omega), hkp1.trans hkp3⟩
  · skip
    refine V_sr T.mix (by kernel_rfl) (fun K6 hK6 => ?_)
    refine S_bin rfl rfl rfl ?_
    refine S_as rfl ?_
    refine S_nil (hK6 _ _ (V_keep [0, 3, 8, 21] (by simp only [proj, lk, reduceIte, Nat.reduceEqDiff]; rfl) ?_)); clear hK6
    refine V_condp rfl (fun c424 => ?_) (fun c424 => ?_)
    · skip
      refine V_sr T.mix (by kernel_rfl) (fun K7 hK7 => ?_)
      refine S_mv rfl ?_
      refine S_nc rfl ?_
      first | refine S_fa0 T.f42_3 rfl ?_ | refine S_fa T.f42_3 rfl ?_
      refine S_ldK T.ag39 rfl (fun K' hK' => ?_)
      simp (disch := omega) only [u0, u1, u2, u3, u4, u5, u6, u7, u8, u9, o0, o1, o2, o4, oP_some, Nat.add_zero]
      refine hK' _ ?_; clear hK' K'
      refine S_as rfl ?_
      refine S_nil (hK7 _ _ (V_keep [0, 3, 5] (by simp only [proj, lk, reduceIte, Nat.reduceEqDiff]; rfl) ?_)); clear hK7
      refine V_sr T.mix (by kernel_rfl) (fun K8 hK8 => ?_)
      refine S_mv rfl ?_
      refine S_nc rfl ?_
      first | refine S_fa0 T.f42_3 rfl ?_ | refine S_fa T.f42_3 rfl ?_
      refine S_st T.sz39 rfl rfl rfl rfl (by simp (disch := omega) only [huok]) ?_
      generalize hh : putH _ _ _ = h3
      have hD3 : B h3 A.U (ucs A { u with ra := none, rc := 0, rg := [] }) 42 := by rw [← hh]; exact (w1.dd.put 6 _).cong (by simp [ucs])
      have hE3 : Ext (fun b => b = A.U) h1 h3 := by rw [← hh]; exact Ext.put _ _ rfl
      clear hh
      obtain ⟨tg3, w3, ht3⟩ := w1.reg (hE3.mono fun _ e => .inl e) hD3 (IL.nil _) (by simp) (by simp [blkA])
      have hIc := w1.rg.ext hE3 (fun b e z => by have h8 := w.tr b e; rw [z, w.tU] at h8; omega)
      have hkp3 : KP tg tg3 h1 h3 := KP.of hE3 (fun b e => by rw [e, w.tU]; omega) ht3
      try clear o0 o1 o2 o4
      obtain ⟨o0, o1, o2, o4⟩ := oq (hO.ext hE3 (fun e => by omega))
      refine S_nil (hK8 _ _ (V_keep [0, 3, 5] (by simp only [proj, lk, reduceIte, Nat.reduceEqDiff]; rfl) ?_)); clear hK8
      refine V_sr T.mix (by kernel_rfl) (fun K9 hK9 => ?_)
      refine S_mv rfl ?_
      refine S_mv rfl ?_
      first | refine S_fa0 T.f49_2 rfl ?_ | refine S_fa T.f49_2 rfl ?_
      refine S_ldK T.ag3 rfl (fun K' hK' => ?_)
      simp (disch := omega) only [u0, u1, u2, u3, u4, u5, u6, u7, u8, u9, o0, o1, o2, o4, oP_some, Nat.add_zero]
      refine hK' _ ?_; clear hK' K'
      refine S_bin rfl rfl rfl ?_
      refine S_call T.hb26 rfl ?_
      have hcall := sameadd_spec h3 tg3 A _ nb w3 u.ra u.rc u.rg hIc (by omega) (decide (ob ≠ 0))
      rw [show (decide (decide (ob ≠ 0) = true)) = decide (ob ≠ 0) by simp] at hcall
      refine FC.mono hcall ?_
      rintro v' h4 ⟨rfl, tg4, us4, w4, hkp4⟩
      refine S_as rfl ?_
      refine S_nil (hK9 _ _ (V_keep [4] (by simp only [proj, lk, reduceIte, Nat.reduceEqDiff]; rfl) ?_)); clear hK9
      refine V_ret ?_
      refine hR _ _ (ret1 rfl rfl ?_)
      exact ⟨rfl, tg4, us4, w4.up (by omega), (hkp1.trans hkp3).trans hkp4⟩
    · skip
      refine V_sr T.mix (by kernel_rfl) (fun K10 hK10 => ?_)
      refine S_bin rfl rfl rfl ?_
      refine S_as rfl ?_
      refine S_nil (hK10 _ _ (V_keep [0, 3, 8, 36] (by simp only [proj, lk, reduceIte, Nat.reduceEqDiff]; rfl) ?_)); clear hK10
      refine V_condp rfl (fun c428 => ?_) (fun c428 => ?_)
      · skip
        refine V_sr T.mix (by kernel_rfl) (fun K11 hK11 => ?_)
        refine S_mv rfl ?_
        first | refine S_fa0 T.f49_1 rfl ?_ | refine S_fa T.f49_1 rfl ?_
        refine S_ldK T.ag3 rfl (fun K' hK' => ?_)
        simp (disch := omega) only [u0, u1, u2, u3, u4, u5, u6, u7, u8, u9, o0, o1, o2, o4, oP_some, Nat.add_zero]
        refine hK' _ ?_; clear hK' K'
        refine S_call T.hb27 rfl ?_
        refine FC.mono (samedecide_spec h1 tg A u nb w1 oa) ?_
        rintro v' h2 ⟨rfl, tg2, us2, w2, hkp2⟩
        refine S_as rfl ?_
        refine S_nil (hK11 _ _ (V_keep [4] (by simp only [proj, lk, reduceIte, Nat.reduceEqDiff]; rfl) ?_)); clear hK11
        refine V_ret ?_
        refine hR _ _ (ret1 rfl rfl ?_)
        exact ⟨rfl, tg2, us2, w2, hkp1.trans hkp2⟩
      · skip
        refine V_sr T.mix (by kernel_rfl) (fun K12 hK12 => ?_)
        refine S_bin rfl rfl rfl ?_
        refine S_as rfl ?_
        refine S_nil (hK12 _ _ (V_keep [0, 3, 8, 42] (by simp only [proj, lk, reduceIte, Nat.reduceEqDiff]; rfl) ?_)); clear hK12
        refine V_condp rfl (fun c430 => ?_) (fun c430 => ?_)
        · skip
          refine V_sr T.mix (by kernel_rfl) (fun K13 hK13 => ?_)
          refine S_mv rfl ?_
          refine S_call T.hb28 rfl ?_
          refine FC.mono (propagated_spec h1 tg A u nb w1) ?_
          rintro v' h2 ⟨rfl, tg2, us2, w2, hkp2⟩
          refine S_as rfl ?_
          refine S_nil (hK13 _ _ (V_keep [4] (by simp only [proj, lk, reduceIte, Nat.reduceEqDiff]; rfl) ?_)); clear hK13
          refine V_ret ?_
          refine hR _ _ (ret1 rfl rfl ?_)
          exact ⟨rfl, tg2, us2, w2, hkp1.trans hkp2⟩
        · skip
          refine V_sr T.mix (by kernel_rfl) (fun K14 hK14 => ?_)
          refine S_bin rfl rfl rfl ?_
          refine S_as rfl ?_
          refine S_nil (hK14 _ _ (V_keep [0, 3, 8, 46] (by simp only [proj, lk, reduceIte, Nat.reduceEqDiff]; rfl) ?_)); clear hK14
          refine V_condp rfl (fun c432 => ?_) (fun c432 => ?_)
          · skip
            refine V_sr T.mix (by kernel_rfl) (fun K15 hK15 => ?_)
            refine S_mv rfl ?_
            first | refine S_fa0 T.f49_1 rfl ?_ | refine S_fa T.f49_1 rfl ?_
            refine S_ldK T.ag3 rfl (fun K' hK' => ?_)
            simp (disch := omega) only [u0, u1, u2, u3, u4, u5, u6, u7, u8, u9, o0, o1, o2, o4, oP_some, Nat.add_zero]
            refine hK' _ ?_; clear hK' K'
            refine S_call T.hb29 rfl ?_
            refine FC.mono (samebackjump_spec h1 tg A u nb w1 oa hnb) ?_
            rintro v' h2 ⟨rfl, tg2, us2, w2, hkp2⟩
            refine S_as rfl ?_
            refine S_nil (hK15 _ _ (V_keep [4] (by simp only [proj, lk, reduceIte, Nat.reduceEqDiff]; rfl) ?_)); clear hK15
            refine V_ret ?_
            refine hR _ _ (ret1 rfl rfl ?_)
            exact ⟨rfl, tg2, us2, w2, hkp1.trans hkp2⟩
          · skip
            refine V_sr T.mix (by kernel_rfl) (fun K16 hK16 => ?_)
            refine S_bin rfl rfl rfl ?_
            refine S_as rfl ?_
            refine S_nil (hK16 _ _ (V_keep [0, 3, 8, 52] (by simp only [proj, lk, reduceIte, Nat.reduceEqDiff]; rfl) ?_)); clear hK16
            refine V_condp rfl (fun c434 => ?_) (fun c434 => ?_)
            · skip
              refine V_sr T.mix (by kernel_rfl) (fun K17 hK17 => ?_)
              refine S_mv rfl ?_
              first | refine S_fa0 T.f49_1 rfl ?_ | refine S_fa T.f49_1 rfl ?_
              refine S_ldK T.ag3 rfl (fun K' hK' => ?_)
              simp (disch := omega) only [u0, u1, u2, u3, u4, u5, u6, u7, u8, u9, o0, o1, o2, o4, oP_some, Nat.add_zero]
              refine hK' _ ?_; clear hK' K'
              refine S_call T.hb30 rfl ?_
              refine FC.mono (sameremove_spec h1 tg A u nb w1 oa) ?_
              rintro v' h2 ⟨rfl, tg2, us2, w2, hkp2⟩
              refine S_as rfl ?_
              refine S_nil (hK17 _ _ (V_keep [4] (by simp only [proj, lk, reduceIte, Nat.reduceEqDiff]; rfl) ?_)); clear hK17
              refine V_ret ?_
              refine hR _ _ (ret1 rfl rfl ?_)
              exact ⟨rfl, tg2, us2, w2, hkp1.trans hkp2⟩
            · skip
              refine V_sr T.mix (by kernel_rfl) (fun K18 hK18 => ?_)
              refine S_bin rfl rfl rfl ?_
              refine S_as rfl ?_
              refine S_nil (hK18 _ _ (V_keep [0, 3, 8, 58] (by simp only [proj, lk, reduceIte, Nat.reduceEqDiff]; rfl) ?_)); clear hK18
              refine V_condp rfl (fun c436 => ?_) (fun c436 => ?_)
              · skip
                refine V_sr T.mix (by kernel_rfl) (fun K19 hK19 => ?_)
                first | refine S_fa0 T.f49_4 rfl ?_ | refine S_fa T.f49_4 rfl ?_
                refine S_ldK T.ag9 rfl (fun K' hK' => ?_)
                simp (disch := omega) only [u0, u1, u2, u3, u4, u5, u6, u7, u8, u9, o0, o1, o2, o4, oP_some, Nat.add_zero]
                refine hK' _ ?_; clear hK' K'
                refine S_call T.hb31 rfl ?_
                refine FC.mono (textjoin_spec h1 _ os (by decide)) ?_
                rintro v' h' ⟨⟨r, rfl, hr⟩, rfl⟩
                refine S_as rfl ?_
                refine S_nil (hK19 _ _ (V_keep [0, 6] (by simp only [proj, lk, reduceIte, Nat.reduceEqDiff]; rfl) ?_)); clear hK19
                refine V_regBc 5 (e := 5) (by kernel_rfl) rfl (by kernel_rfl) (by kernel_rfl) (by kernel_rfl) ?_
                refine S_mv rfl ?_
                refine S_nc rfl ?_
                first | refine S_fa0 T.f42_0 rfl ?_ | refine S_fa T.f42_0 rfl ?_
                refine S_ldnK T.ag31 rfl (fun K' hK' => ?_)
                simp (disch := omega) only [u0, u1, u2, u3, u4, u5, u6, u7, u8, u9, o0, o1, o2, o4, oPs_cons, oPs_nil, oP_some, Nat.reduceAdd, Nat.add_zero]
                refine hK' _ ?_; clear hK' K'
                refine S_mv rfl ?_
                refine S_nil ?_
                refine SB_at rfl (fun bcap bob => ?_)
                have hEb : Ext (fun _ => False) h1 (h1.push bob) := Ext.push _ _ _
                generalize h1.push bob = hb at hEb ⊢
                have wb := w1.new hEb
                refine S_call T.hb32 rfl ?_
                refine FC.mono (tape_spec hb A.X A.C _) ?_
                rintro v' h2 ⟨rfl, hE2⟩
                refine S_nilk [] (by simp only [proj, lk, reduceIte, Nat.reduceEqDiff]; rfl) ?_
                refine hK2 _ _ ?_; clear hK2
                refine V_sr T.mix (by kernel_rfl) (fun K20 hK20 => ?_)
                refine S_as rfl ?_
                refine S_nil (hK20 _ _ (V_keep [4] (by simp only [proj, lk, reduceIte, Nat.reduceEqDiff]; rfl) ?_)); clear hK20
                refine V_ret ?_
                refine hR _ _ (ret1 rfl rfl ?_)
                exact ⟨rfl, tg, u, (wb.new hE2).up (by omega), (hkp1.trans (KP.quiet hEb)).trans (KP.quiet hE2)⟩
              · skip
                refine V_sr T.mix (by kernel_rfl) (fun K21 hK21 => ?_)
                refine S_bin rfl rfl rfl ?_
                refine S_as rfl ?_
                refine S_nil (hK21 _ _ (V_keep [0, 3, 8, 70] (by simp only [proj, lk, reduceIte, Nat.reduceEqDiff]; rfl) ?_)); clear hK21
                refine V_condp rfl (fun c439 => ?_) (fun c439 => ?_)
                · skip
                  refine V_sr T.mix (by kernel_rfl) (fun K22 hK22 => ?_)
                  refine S_mv rfl ?_
                  first | refine S_fa0 T.f49_1 rfl ?_ | refine S_fa T.f49_1 rfl ?_
                  refine S_ldK T.ag3 rfl (fun K' hK' => ?_)
                  simp (disch := omega) only [u0, u1, u2, u3, u4, u5, u6, u7, u8, u9, o0, o1, o2, o4, oP_some, Nat.add_zero]
                  refine hK' _ ?_; clear hK' K'
                  refine S_call T.hb33 rfl ?_
                  refine FC.mono (sameanalyze_spec h1 tg A u nb w1 oa hqc) ?_
                  rintro v' h2 ⟨rfl, tg2, us2, w2, hkp2⟩
                  refine S_as rfl ?_
                  refine S_nil (hK22 _ _ (V_keep [4] (by simp only [proj, lk, reduceIte, Nat.reduceEqDiff]; rfl) ?_)); clear hK22
                  refine V_ret ?_
                  refine hR _ _ (ret1 rfl rfl ?_)
                  exact ⟨rfl, tg2, us2, w2, hkp1.trans hkp2⟩
                · skip
                  refine V_sr T.mix (by kernel_rfl) (fun K23 hK23 => ?_)
                  refine S_bin rfl rfl rfl ?_
                  refine S_as rfl ?_
                  refine S_nil (hK23 _ _ (V_keep [0, 3, 8, 76] (by simp only [proj, lk, reduceIte, Nat.reduceEqDiff]; rfl) ?_)); clear hK23
                  refine V_condp rfl (fun c441 => ?_) (fun c441 => ?_)
                  · skip
                    refine V_sr T.mix (by kernel_rfl) (fun K24 hK24 => ?_)
                    refine S_mv rfl ?_
                    refine S_mv rfl ?_
                    refine S_nc rfl ?_
                    first | refine S_fa0 T.f42_4 rfl ?_ | refine S_fa T.f42_4 rfl ?_
                    refine S_ldK T.ag3 rfl (fun K' hK' => ?_)
                    simp (disch := omega) only [u0, u1, u2, u3, u4, u5, u6, u7, u8, u9, o0, o1, o2, o4, oP_some, Nat.add_zero]
                    refine hK' _ ?_; clear hK' K'
                    refine S_call T.hb33 rfl ?_
                    refine FC.mono (sameanalyze_spec h1 tg A u nb w1 u.last hqc) ?_
                    rintro v' h2 ⟨rfl, tg2, us2, w2, hkp2⟩
                    refine S_as rfl ?_
                    refine S_nil (hK24 _ _ (V_keep [4] (by simp only [proj, lk, reduceIte, Nat.reduceEqDiff]; rfl) ?_)); clear hK24
                    refine V_ret ?_
                    refine hR _ _ (ret1 rfl rfl ?_)
                    exact ⟨rfl, tg2, us2, w2, hkp1.trans hkp2⟩
                  · skip
                    refine V_sr T.mix (by kernel_rfl) (fun K25 hK25 => ?_)
                    refine S_bin rfl rfl rfl ?_
                    refine S_as rfl ?_
                    refine S_nil (hK25 _ _ (V_keep [0, 3, 8, 84] (by simp only [proj, lk, reduceIte, Nat.reduceEqDiff]; rfl) ?_)); clear hK25
                    refine V_condp rfl (fun c443 => ?_) (fun c443 => ?_)
                    · skip
                      refine V_sr T.mix (by kernel_rfl) (fun K26 hK26 => ?_)
                      refine S_mv rfl ?_
                      refine S_call T.hb34 rfl ?_
                      refine FC.mono (learn_spec h1 tg A u nb w1 hnb hqc) ?_
                      rintro v' h2 ⟨rfl, tg2, us2, w2, hkp2⟩
                      refine S_as rfl ?_
                      refine S_nil (hK26 _ _ (V_keep [4] (by simp only [proj, lk, reduceIte, Nat.reduceEqDiff]; rfl) ?_)); clear hK26
                      refine V_ret ?_
                      refine hR _ _ (ret1 rfl rfl ?_)
                      exact ⟨rfl, tg2, us2, w2, hkp1.trans hkp2⟩
                    · skip
                      refine V_sr T.mix (by kernel_rfl) (fun K27 hK27 => ?_)
                      refine S_bin rfl rfl rfl ?_
                      refine S_as rfl ?_
                      refine S_nil (hK27 _ _ (V_keep [0, 3, 8, 88] (by simp only [proj, lk, reduceIte, Nat.reduceEqDiff]; rfl) ?_)); clear hK27
                      refine V_condp rfl (fun c445 => ?_) (fun c445 => ?_)
                      · skip
                        refine V_reg T.mix (by kernel_rfl) ?_
                        refine S_mv rfl ?_
                        refine S_call T.hb35 rfl ?_
                        refine FC.mono (lreset_spec h1 tg A u nb w1 hnb) ?_
                        rintro v' h2 ⟨rfl, tg2, us2, w2, hkp2⟩
                        refine S_nilk [] (by simp only [proj, lk, reduceIte, Nat.reduceEqDiff]; rfl) ?_
                        refine hK2 _ _ ?_; clear hK2
                        refine V_sr T.mix (by kernel_rfl) (fun K28 hK28 => ?_)
                        refine S_as rfl ?_
                        refine S_nil (hK28 _ _ (V_keep [4] (by simp only [proj, lk, reduceIte, Nat.reduceEqDiff]; rfl) ?_)); clear hK28
                        refine V_ret ?_
                        refine hR _ _ (ret1 rfl rfl ?_)
                        exact ⟨rfl, tg2, us2, w2, hkp1.trans hkp2⟩
                      · skip
                        refine V_sr T.mix (by kernel_rfl) (fun K29 hK29 => ?_)
                        refine S_bin rfl rfl rfl ?_
                        refine S_as rfl ?_
                        refine S_nil (hK29 _ _ (V_keep [0, 3, 8, 92] (by simp only [proj, lk, reduceIte, Nat.reduceEqDiff]; rfl) ?_)); clear hK29
                        refine V_condp rfl (fun c447 => ?_) (fun c447 => ?_)
                        · skip
                          refine V_sr T.mix (by kernel_rfl) (fun K30 hK30 => ?_)
                          refine S_mv rfl ?_
                          refine S_nc rfl ?_
                          first | refine S_fa0 T.f42_1 rfl ?_ | refine S_fa T.f42_1 rfl ?_
                          refine S_ldK T.ag33 rfl (fun K' hK' => ?_)
                          simp (disch := omega) only [u0, u1, u2, u3, u4, u5, u6, u7, u8, u9, o0, o1, o2, o4, oP_some, Nat.add_zero]
                          refine hK' _ ?_; clear hK' K'
                          refine S_call T.hb12 rfl ?_
                          refine FC.mono (lcheck_spec h1 A.K A.C A.X w1.lb) ?_
                          rintro v' h' ⟨rfl, rfl⟩
                          refine S_as rfl ?_
                          refine S_nil (hK30 _ _ (V_keep [4] (by simp only [proj, lk, reduceIte, Nat.reduceEqDiff]; rfl) ?_)); clear hK30
                          refine V_ret ?_
                          refine hR _ _ (ret1 rfl rfl ?_)
                          exact ⟨rfl, tg, u, w1.up (by omega), hkp1⟩
                        · skip
                          refine V_sr T.mix (by kernel_rfl) (fun K31 hK31 => ?_)
                          refine S_bin rfl rfl rfl ?_
                          refine S_as rfl ?_
                          refine S_nil (hK31 _ _ (V_keep [0, 3, 99] (by simp only [proj, lk, reduceIte, Nat.reduceEqDiff]; rfl) ?_)); clear hK31
                          refine V_condp rfl (fun c449 => ?_) (fun c449 => ?_)
                          · skip
                            refine V_sr T.mix (by kernel_rfl) (fun K32 hK32 => ?_)
                            refine S_mv rfl ?_
                            first | refine S_fa0 T.f49_1 rfl ?_ | refine S_fa T.f49_1 rfl ?_
                            refine S_ldK T.ag3 rfl (fun K' hK' => ?_)
                            simp (disch := omega) only [u0, u1, u2, u3, u4, u5, u6, u7, u8, u9, o0, o1, o2, o4, oP_some, Nat.add_zero]
                            refine hK' _ ?_; clear hK' K'
                            first | refine S_fa0 T.f49_2 rfl ?_ | refine S_fa T.f49_2 rfl ?_
                            refine S_ldK T.ag3 rfl (fun K' hK' => ?_)
                            simp (disch := omega) only [u0, u1, u2, u3, u4, u5, u6, u7, u8, u9, o0, o1, o2, o4, oP_some, Nat.add_zero]
                            refine hK' _ ?_; clear hK' K'
                            refine S_call T.hb36 rfl ?_
                            refine FC.mono (sameforce_spec h1 tg A u nb w1 oa ob) ?_
                            rintro v' h2 ⟨rfl, tg2, us2, w2, hkp2⟩
                            refine S_as rfl ?_
                            refine S_nil (hK32 _ _ (V_keep [4] (by simp only [proj, lk, reduceIte, Nat.reduceEqDiff]; rfl) ?_)); clear hK32
                            refine V_ret ?_
                            refine hR _ _ (ret1 rfl rfl ?_)
                            exact ⟨rfl, tg2, us2, w2, hkp1.trans hkp2⟩
                          · skip
                            refine V_skipk [] (by simp only [proj, lk, reduceIte, Nat.reduceEqDiff]; rfl) ?_
                            refine hK2 _ _ ?_; clear hK2
                            refine V_sr T.mix (by kernel_rfl) (fun K33 hK33 => ?_)
                            refine S_as rfl ?_
                            refine S_nil (hK33 _ _ (V_keep [4] (by simp only [proj, lk, reduceIte, Nat.reduceEqDiff]; rfl) ?_)); clear hK33
                            refine V_ret ?_
                            refine hR _ _ (ret1 rfl rfl ?_)
                            exact ⟨rfl, tg, u, w1.up (by omega), hkp1⟩
set_option maxHeartbeats 400000 in
theorem ground_spec (h : Heap) :
    FC Tryz.prog 8 (#[] : Array Value) h fun v h' => ∃ X C, v = .agg #[.pointer (some ⟨X, 0, none⟩), .pointer (some ⟨C, 0, none⟩)] ∧ RS h' X ⟨[], 0, 0⟩ 0 ∧ WB h' C X ⟨fun _ => 0, fun _ => 0, 0, 0, 0, fun _ => 0, 0⟩ ∧ h.size ≤ X ∧ X < C ∧ C < h'.size ∧ Ext (fun _ => False) h h' := by
  refine FC_of [] Tryz.func8 rfl Tryz.ntmps8 (by simp) rfl (fun R hR => ?_)
  refine V_sr T.mix (by kernel_rfl) (fun K1 hK1 => ?_)
  refine S_allocA T.z31 ?_
  generalize hh : Array.push h _ = h1
  have hR0 : B h1 h.size #[.pointer none, .pointer none] 31 := by rw [← hh]; exact B.new _ _ _
  have hEh1 : Ext (fun _ => False) h h1 := by rw [← hh]; exact Ext.push _ _ _
  have hsh1 : h1.size = h.size + 1 := by rw [← hh]; simp
  clear hh
  refine S_nil (hK1 _ _ (V_keep [0] (by simp only [proj, lk, reduceIte, Nat.reduceEqDiff]; rfl) ?_)); clear hK1
  refine V_sr T.mix (by kernel_rfl) (fun K2 hK2 => ?_)
  refine S_call T.hb17 rfl ?_
  refine FC.mono (new_spec h1) ?_
  rintro v' h2 ⟨rfl, hrs, hE2⟩
  have hXl := hrs.lt
  refine S_as rfl ?_
  refine S_nil (hK2 _ _ (V_keep [0, 1] (by simp only [proj, lk, reduceIte, Nat.reduceEqDiff]; rfl) ?_)); clear hK2
  refine V_sr T.mix (by kernel_rfl) (fun K3 hK3 => ?_)
  refine S_mv rfl ?_
  refine S_call T.hb18 rfl ?_
  refine FC.mono (wnew_spec h2 h1.size) ?_
  rintro v' h3 ⟨rfl, hwb, hE3⟩
  have hCl := hwb.lt
  have hz3 := hE3.1
  have hR3 := (hR0.ext hE2 (fun f => f)).ext hE3 (fun f => f)
  have hokR : ∀ j, j < 2 → okPut h3 ⟨h.size, j, none⟩ = true := fun j hj => hR3.ok (by simpa using hj)
  refine S_as rfl ?_
  refine S_nil (hK3 _ _ (V_keep [0, 1, 2] (by simp only [proj, lk, reduceIte, Nat.reduceEqDiff]; rfl) ?_)); clear hK3
  refine V_sr T.mix (by kernel_rfl) (fun K4 hK4 => ?_)
  refine S_mv rfl ?_
  refine S_mv rfl ?_
  refine S_bld rfl (T.bld31_0_1 _ _) ?_
  refine S_stl T.sz31 rfl rfl rfl rfl (fun j hj => by simp (disch := omega) only [hokR]) ?_
  generalize hh : putsH _ _ _ _ = h4
  have hR4 : B h4 (h.size) #[.pointer (some ⟨h1.size, 0, none⟩), .pointer (some ⟨h2.size, 0, none⟩)] 31 := by rw [← hh]; exact B.puts_all (hR3) (cs' := #[.pointer (some ⟨h1.size, 0, none⟩), .pointer (some ⟨h2.size, 0, none⟩)]) rfl
  have hEh4 : Ext (fun k => k = h.size) h3 h4 := by rw [← hh]; exact Ext.puts (S := fun k => k = h.size) rfl _ _ _
  clear hh
  have hz4 := hEh4.1
  refine S_nil (hK4 _ _ (V_keep [0] (by simp only [proj, lk, reduceIte, Nat.reduceEqDiff]; rfl) ?_)); clear hK4
  refine V_ret ?_
  refine hR _ _ (retc1 rfl rfl T.ag31 hR4 (by rfl) ?_)
  exact ⟨h1.size, h2.size, rfl, (hrs.ext hE3 (fun f => f)).ext hEh4 (fun e => by omega), hwb.ext hEh4 (fun e => by omega), by omega, by omega, by omega, ((hEh1.trans hE2).trans hE3).step hEh4 (fun b hb e => by omega)⟩
set_option maxHeartbeats 400000 in
theorem modelside_spec (h : Heap) :
    FC Tryz.prog 10 (#[] : Array Value) h fun v h' => ∃ Y M D, v = .agg #[.pointer (some ⟨Y, 0, none⟩), .pointer (some ⟨M, 0, none⟩), .pointer (some ⟨D, 0, none⟩)] ∧ MS h' Y (fun b => b = Y) ⟨[], 0, 0⟩ ∧ MB h' M Y ⟨fun _ => false, fun _ => none, fun _ => 0, fun _ => false, 0⟩ ∧ LM h' D Y M LC.z ∧ h.size ≤ Y ∧ Y < M ∧ M < D ∧ D < h'.size ∧ Ext (fun _ => False) h h' := by
  refine FC_of [] Tryz.func10 rfl Tryz.ntmps10 (by simp) rfl (fun R hR => ?_)
  refine V_sr T.mix (by kernel_rfl) (fun K1 hK1 => ?_)
  refine S_allocA T.z38 ?_
  generalize hh : Array.push h _ = h1
  have hR0 : B h1 h.size #[.pointer none, .pointer none, .pointer none] 38 := by rw [← hh]; exact B.new _ _ _
  have hEh1 : Ext (fun _ => False) h h1 := by rw [← hh]; exact Ext.push _ _ _
  have hsh1 : h1.size = h.size + 1 := by rw [← hh]; simp
  clear hh
  refine S_nil (hK1 _ _ (V_keep [0] (by simp only [proj, lk, reduceIte, Nat.reduceEqDiff]; rfl) ?_)); clear hK1
  refine V_sr T.mix (by kernel_rfl) (fun K2 hK2 => ?_)
  refine S_call T.hb19 rfl ?_
  refine FC.mono (mnew_spec h1) ?_
  rintro v' h2 ⟨rfl, hms, hE2⟩
  have hYl := hms.lt rfl
  refine S_as rfl ?_
  refine S_nil (hK2 _ _ (V_keep [0, 1] (by simp only [proj, lk, reduceIte, Nat.reduceEqDiff]; rfl) ?_)); clear hK2
  refine V_sr T.mix (by kernel_rfl) (fun K3 hK3 => ?_)
  refine S_mv rfl ?_
  refine S_call T.hb20 rfl ?_
  refine FC.mono (mwnew_spec h2 h1.size) ?_
  rintro v' h3 ⟨rfl, hmb, hE3⟩
  have hMl := hmb.lt
  refine S_as rfl ?_
  refine S_nil (hK3 _ _ (V_keep [0, 1, 2] (by simp only [proj, lk, reduceIte, Nat.reduceEqDiff]; rfl) ?_)); clear hK3
  refine V_sr T.mix (by kernel_rfl) (fun K4 hK4 => ?_)
  refine S_mv rfl ?_
  refine S_mv rfl ?_
  refine S_call T.hb21 rfl ?_
  refine FC.mono (mlnew_spec h3 h1.size h2.size) ?_
  rintro v' h4 ⟨rfl, hlm, hE4⟩
  have hDl := hlm.b.lt
  have hR4 := ((hR0.ext hE2 (fun f => f)).ext hE3 (fun f => f)).ext hE4 (fun f => f)
  have hokR : ∀ j, j < 3 → okPut h4 ⟨h.size, j, none⟩ = true := fun j hj => hR4.ok (by simpa using hj)
  have hz3 := hE3.1
  have hz4 := hE4.1
  refine S_as rfl ?_
  refine S_nil (hK4 _ _ (V_keep [0, 1, 2, 3] (by simp only [proj, lk, reduceIte, Nat.reduceEqDiff]; rfl) ?_)); clear hK4
  refine V_sr T.mix (by kernel_rfl) (fun K5 hK5 => ?_)
  refine S_mv rfl ?_
  refine S_mv rfl ?_
  refine S_mv rfl ?_
  refine S_bld rfl (T.bld38_0_1_2 _ _ _) ?_
  refine S_stl T.sz38 rfl rfl rfl rfl (fun j hj => by simp (disch := omega) only [hokR]) ?_
  generalize hh : putsH _ _ _ _ = h5
  have hR5 : B h5 (h.size) #[.pointer (some ⟨h1.size, 0, none⟩), .pointer (some ⟨h2.size, 0, none⟩), .pointer (some ⟨h3.size, 0, none⟩)] 38 := by rw [← hh]; exact B.puts_all (hR4) (cs' := #[.pointer (some ⟨h1.size, 0, none⟩), .pointer (some ⟨h2.size, 0, none⟩), .pointer (some ⟨h3.size, 0, none⟩)]) rfl
  have hEh5 : Ext (fun k => k = h.size) h4 h5 := by rw [← hh]; exact Ext.puts (S := fun k => k = h.size) rfl _ _ _
  clear hh
  have hz5 := hEh5.1
  refine S_nil (hK5 _ _ (V_keep [0] (by simp only [proj, lk, reduceIte, Nat.reduceEqDiff]; rfl) ?_)); clear hK5
  refine V_ret ?_
  refine hR _ _ (retc1 rfl rfl T.ag38 hR5 (by rfl) ?_)
  exact ⟨h1.size, h2.size, h3.size, rfl, ((hms.ext hE3 (fun _ _ f => f)).ext hE4 (fun _ _ f => f)).ext hEh5 (fun b e z => by omega), (hmb.ext hE4 (fun f => f)).ext hEh5 (fun e => by omega), hlm.ext hEh5 (fun b e z => by rcases e with e | e | e; (omega); (cases e); (cases e)), by omega, by omega, by omega, by omega, (((hEh1.trans hE2).trans hE3).trans hE4).step hEh5 (fun b hb e => by omega)⟩
set_option maxHeartbeats 3200000 in
theorem walk_spec (h : Heap) (sa : Option Addr) (n cap : Nat) (q : Bool) (hs : Scr h.size h sa n) (hn : n ≤ 9223372036854775807) :
    FC Tryz.prog 7 (#[.slice sa n cap, .bool (decide (q = true))] : Array Value) h fun v h' => (∃ j : Int, v = .tuple #[.int .i64 (-1), .int .i64 j]) ∧ Ext (fun b => h.size ≤ b) h h' := by
  refine FC_of [(0, .slice sa n cap), (1, .bool (decide (q = true)))] Tryz.func7 rfl Tryz.ntmps7 (by simp) rfl (fun R hR => ?_)
  refine V_sr T.mix (by kernel_rfl) (fun K1 hK1 => ?_)
  refine S_as rfl ?_
  refine S_as rfl ?_
  refine S_nil (hK1 _ _ (V_keep [0, 1] (by simp only [proj, lk, reduceIte, Nat.reduceEqDiff]; rfl) ?_)); clear hK1
  refine V_sr T.mix (by kernel_rfl) (fun K2 hK2 => ?_)
  refine S_call T.hb8 rfl ?_
  refine FC.mono (ground_spec h) ?_
  rintro v' h1 ⟨X, C, rfl, hrs, hwb, hX, hXC, hCl, hE1⟩
  refine S_bld rfl (T.bld42_0_4 _ _ _) ?_
  refine S_boxA rfl ?_
  generalize hh : Array.push h1 _ = h2
  have hU2 : B h2 h1.size #[.pointer (some ⟨X, 0, none⟩), .pointer (some ⟨C, 0, none⟩), .pointer none, .pointer none, .pointer none, .pointer none, .slice none 0 0, .int .i64 (-1), .bool false, .slice none 0 0] 42 := by rw [← hh]; exact B.new _ _ _
  have hEh2 : Ext (fun _ => False) h1 h2 := by rw [← hh]; exact Ext.push _ _ _
  have hsh2 : h2.size = h1.size + 1 := by rw [← hh]; simp
  clear hh
  have n0 : cellH h2 ⟨h1.size, 0, none⟩ = some (.pointer (some ⟨X, 0, none⟩)) := hU2.cell 0
  have n1 : cellH h2 ⟨h1.size, 1, none⟩ = some (.pointer (some ⟨C, 0, none⟩)) := hU2.cell 1
  refine S_as rfl ?_
  refine S_nil (hK2 _ _ (V_keep [0, 1, 6] (by simp only [proj, lk, reduceIte, Nat.reduceEqDiff]; rfl) ?_)); clear hK2
  refine V_sr T.mix (by kernel_rfl) (fun K3 hK3 => ?_)
  refine S_mv rfl ?_
  refine S_mv rfl ?_
  refine S_nc rfl ?_
  first | refine S_fa0 T.f42_0 rfl ?_ | refine S_fa T.f42_0 rfl ?_
  first | refine S_fa0 T.f31_0 rfl ?_ | refine S_fa T.f31_0 rfl ?_
  refine S_ldK T.ag28 rfl (fun K' hK' => ?_)
  simp (disch := omega) only [n0, n1, oP_some, Nat.add_zero]
  refine hK' _ ?_; clear hK' K'
  refine S_mv rfl ?_
  refine S_nc rfl ?_
  first | refine S_fa0 T.f42_0 rfl ?_ | refine S_fa T.f42_0 rfl ?_
  first | refine S_fa0 T.f31_1 rfl ?_ | refine S_fa T.f31_1 rfl ?_
  refine S_ldK T.ag29 rfl (fun K' hK' => ?_)
  simp (disch := omega) only [n0, n1, oP_some, Nat.add_zero]
  refine hK' _ ?_; clear hK' K'
  refine S_call T.hb9 rfl ?_
  refine FC.mono (lnew_spec h2 X C) ?_
  rintro v' h3 ⟨rfl, hlb, hE3⟩
  have hU3 := hU2.ext hE3 (fun f => f)
  have hKl := hlb.lt
  try clear hokU
  have hokU : ∀ j, j < 10 → okPut h3 ⟨h1.size, j, none⟩ = true := fun j hj => (hU3).ok (by simpa using hj)
  refine S_nc rfl ?_
  first | refine S_fa0 T.f42_1 rfl ?_ | refine S_fa T.f42_1 rfl ?_
  refine S_st T.sz33 rfl rfl rfl rfl (by simp (disch := omega) only [hokU]) ?_
  generalize hh : putH _ _ _ = h4
  have hU4 : B h4 h1.size #[.pointer (some ⟨X, 0, none⟩), .pointer (some ⟨C, 0, none⟩), .pointer (some ⟨h2.size, 0, none⟩), .pointer none, .pointer none, .pointer none, .slice none 0 0, .int .i64 (-1), .bool false, .slice none 0 0] 42 := by rw [← hh]; exact hU3.put 2 _
  have hE4 : Ext (fun x => x = h1.size) h3 h4 := by rw [← hh]; exact Ext.put _ _ rfl
  clear hh
  have hz4 := hE4.1
  refine S_nil (hK3 _ _ (V_keep [0, 1, 6] (by simp only [proj, lk, reduceIte, Nat.reduceEqDiff]; rfl) ?_)); clear hK3
  refine V_sr T.mix (by kernel_rfl) (fun K4 hK4 => ?_)
  refine S_mv rfl ?_
  refine S_call T.hb10 rfl ?_
  refine FC.mono (modelside_spec h4) ?_
  rintro v' h5 ⟨Y, M, D, rfl, hms, hmb, hlm, hY, hYM, hMD, hDl, hE5⟩
  have hU5 := hU4.ext hE5 (fun f => f)
  try clear hokU
  have hokU : ∀ j, j < 10 → okPut h5 ⟨h1.size, j, none⟩ = true := fun j hj => (hU5).ok (by simpa using hj)
  refine S_nc rfl ?_
  first | refine S_fa0 T.f42_2 rfl ?_ | refine S_fa T.f42_2 rfl ?_
  refine S_stl T.sz38 rfl rfl rfl rfl (fun j hj => by simp (disch := omega) only [hokU]) ?_
  generalize hh : putsH _ _ _ _ = h6
  have hU6 : B h6 h1.size #[.pointer (some ⟨X, 0, none⟩), .pointer (some ⟨C, 0, none⟩), .pointer (some ⟨h2.size, 0, none⟩), .pointer (some ⟨Y, 0, none⟩), .pointer (some ⟨M, 0, none⟩), .pointer (some ⟨D, 0, none⟩), .slice none 0 0, .int .i64 (-1), .bool false, .slice none 0 0] 42 := by rw [← hh]; exact ((hU5.put 3 _).put 4 _).put 5 _
  have hE6 : Ext (fun x => x = h1.size) h5 h6 := by rw [← hh]; exact Ext.puts (S := fun x => x = h1.size) rfl _ _ _
  clear hh
  have hz1 := hE1.1
  have hz3 := hE3.1
  have hz5 := hE5.1
  have hz6 := hE6.1
  have hrX := hrs.lt
  have hwb6 := ((((hwb.ext hEh2 (fun f => f)).ext hE3 (fun f => f)).ext hE4 (fun e => by omega)).ext hE5 (fun f => f)).ext hE6 (fun e => by omega)
  have hrs6 := ((((hrs.ext hEh2 (fun f => f)).ext hE3 (fun f => f)).ext hE4 (fun e => by omega)).ext hE5 (fun f => f)).ext hE6 (fun e => by omega)
  have hlb6 := ((hlb.ext hE4 (fun e => by omega)).ext hE5 (fun f => f)).ext hE6 (fun e => by omega)
  have hms6 := hms.ext hE6 (fun b e z => by omega)
  have hmb6 := hmb.ext hE6 (fun e => by omega)
  have hlm6 := hlm.ext hE6 (fun b e z => by rcases e with e | e | e; (omega); (cases e); (cases e))
  obtain ⟨tg1, w1⟩ := UI.zero (base := h.size) hU6 hwb6 hrs6 hms6 hmb6 hlb6 hlm6 hX hXC hCl (by omega) (by omega) hYM hMD (by omega)
  have hE06 : Ext (fun b => h.size ≤ b) h h6 := (((((hE1.mono fun _ f => f.elim).trans (hEh2.mono fun _ f => f.elim)).trans (hE3.mono fun _ f => f.elim)).trans (hE4.mono fun b e => by omega)).trans (hE5.mono fun _ f => f.elim)).trans (hE6.mono fun b e => by omega)
  generalize hA : (⟨h.size, h1.size, C, X, M, Y, h2.size, D⟩ : UA) = A at w1
  have hAb : A.base = h.size := by rw [← hA]
  have hAU : h1.size = A.U := by rw [← hA]
  generalize (⟨⟨fun _ => 0, fun _ => 0, 0, 0, 0, fun _ => 0, 0⟩, ⟨fun _ => false, fun _ => none, fun _ => 0, fun _ => false, 0⟩, fun _ => none, ⟨[], 0, 0⟩, 0, fun _ => False, fun b => b = Y, LC.z, none, 0, [], -1, false, none, 0, []⟩ : US) = us1 at w1
  rw [hAU]
  refine S_nil (hK4 _ _ (V_keep [0, 1, 6] (by simp only [proj, lk, reduceIte, Nat.reduceEqDiff]; rfl) ?_)); clear hK4
  refine V_seq (fun K5 hK5 => ?_)
  refine V_sr T.mix (by kernel_rfl) (fun K6 hK6 => ?_)
  refine S_mv rfl ?_
  refine S_call T.hb11 rfl ?_
  refine FC.mono (setsalike_spec h6 tg1 A us1 0 w1) ?_
  rintro v' h7 ⟨rfl, hE7⟩
  have w7 := w1.new hE7
  try clear u0 u1 u2 u3 u4 u5 u6 u7 u8 u9 huok
  obtain ⟨u0, u1, u2, u3, u4, u5, u6, u7, u8, u9, huok⟩ := uq (w7.dd)
  refine S_notb rfl ?_
  refine S_nil (hK6 _ _ (V_keep [0, 1, 6, 31] (by simp only [proj, lk, reduceIte, Nat.reduceEqDiff]; rfl) ?_)); clear hK6
  refine V_condb rfl (fun c461 => ?_) (fun c461 => ?_)
  · skip
    cases c461
  · skip
    refine V_skipk [0, 1, 6] (by simp only [proj, lk, reduceIte, Nat.reduceEqDiff]; rfl) ?_
    refine hK5 _ _ ?_; clear hK5
    refine V_seqJ (fun l h' => (True) ∧ l = [(0, .slice sa n cap), (1, .bool (decide (q = true))), (6, .pointer (some ⟨A.U, 0, none⟩))] ∧ h7 = h') ?_ ?_
    · skip
      refine V_sr T.mix (by kernel_rfl) (fun K8 hK8 => ?_)
      refine S_mv rfl ?_
      refine S_not rfl ?_
      refine S_nil (hK8 _ _ (V_keep [0, 1, 6, 33] (by simp only [proj, lk, reduceIte, Nat.reduceEqDiff]; rfl) ?_)); clear hK8
      refine V_condp rfl (fun c464 => ?_) (fun c464 => ?_)
      · skip
        refine V_sr T.mix (by kernel_rfl) (fun K9 hK9 => ?_)
        refine S_mv rfl ?_
        refine S_nc rfl ?_
        first | refine S_fa0 T.f42_1 rfl ?_ | refine S_fa T.f42_1 rfl ?_
        refine S_ldK T.ag33 rfl (fun K' hK' => ?_)
        simp (disch := omega) only [u0, u1, u2, u3, u4, u5, u6, u7, u8, u9, oP_some, Nat.add_zero]
        refine hK' _ ?_; clear hK' K'
        refine S_call T.hb12 rfl ?_
        refine FC.mono (lcheck_spec h7 A.K A.C A.X w7.lb) ?_
        rintro v' h' ⟨rfl, rfl⟩
        refine S_notb rfl ?_
        refine S_nil (hK9 _ _ (V_keep [0, 1, 6, 39] (by simp only [proj, lk, reduceIte, Nat.reduceEqDiff]; rfl) ?_)); clear hK9
        refine V_condb rfl (fun c465 => ?_) (fun c465 => ?_)
        · skip
          cases c465
        · skip
          refine V_skipk [0, 1, 6] (by simp only [proj, lk, reduceIte, Nat.reduceEqDiff]; rfl) ?_
          exact ⟨trivial, rfl, rfl⟩
      · skip
        refine V_skipk [0, 1, 6] (by simp only [proj, lk, reduceIte, Nat.reduceEqDiff]; rfl) ?_
        exact ⟨trivial, rfl, rfl⟩
    rintro l h' ⟨htt, rfl, rfl⟩
    refine V_seq (fun K10 hK10 => ?_)
    refine V_sr T.mix (by kernel_rfl) (fun K11 hK11 => ?_)
    refine S_as rfl ?_
    refine S_nil (hK11 _ _ (V_keep [0, 1, 6, 7] (by simp only [proj, lk, reduceIte, Nat.reduceEqDiff]; rfl) ?_)); clear hK11
    refine V_block ?_
    refine V_loop (fun m l h' => ∃ (i : Nat) (hk : Heap) (tgk : Nat → Nat) (uk : US), (i ≤ n) ∧ (i ≤ 4398046511104) ∧ (UI hk tgk A uk (12 * i)) ∧ (Ext (fun b => h.size ≤ b) h hk) ∧ m = n - i ∧ l = [(0, .slice sa n cap), (1, .bool (decide (q = true))), (6, .pointer (some ⟨A.U, 0, none⟩)), (7, .int .i64 i)] ∧ hk = h') _ ⟨0, h7, tg1, us1, by omega, by omega, w7, hE06.trans (hE7.mono fun _ f => f.elim), rfl, rfl, rfl⟩ ?_
    rintro m l h' ⟨i, hk, tgk, uk, hi, hi2, w, hE, rfl, rfl, rfl⟩ K12 hK12
    try clear u0 u1 u2 u3 u4 u5 u6 u7 u8 u9 huok
    obtain ⟨u0, u1, u2, u3, u4, u5, u6, u7, u8, u9, huok⟩ := uq (w.dd)
    refine V_seq (fun K13 hK13 => ?_)
    refine V_sr T.mix (by kernel_rfl) (fun K14 hK14 => ?_)
    refine S_cut (K' := fun l h' => ∃ b : Bool, (b = true ↔ (i < n ∧ i < 4398046511104)) ∧ l = [(0, .slice sa n cap), (1, .bool (decide (q = true))), (6, .pointer (some ⟨A.U, 0, none⟩)), (7, .int .i64 i), (47, .bool b)] ∧ hk = h') ?_ ?_
    · skip
      refine S_mv rfl ?_
      refine S_mv rfl ?_
      refine S_lenl T.el22 rfl ?_
      refine S_bin rfl rfl rfl ?_
      refine S_mv rfl ?_
      refine S_dec (fun g469 => ?_) (fun g469 => ?_)
      · skip
        refine S_gt rfl ?_
        refine S_mv rfl ?_
        refine S_gt rfl ?_
        refine S_bin rfl rfl rfl ?_
        refine S_pt rfl rfl ?_
        exact S_nilk [0, 1, 6, 7, 47] (by simp only [proj, lk, reduceIte, Nat.reduceEqDiff]; rfl) ⟨_, (by first | (simp [*]; done) | (simp; omega)), rfl, rfl⟩
      · skip
        refine S_gf rfl ?_
        refine S_gf rfl ?_
        refine S_pf rfl rfl ?_
        exact S_nilk [0, 1, 6, 7, 47] (by simp only [proj, lk, reduceIte, Nat.reduceEqDiff]; rfl) ⟨_, (by first | (simp [*]; done) | (simp; omega)), rfl, rfl⟩
    rintro l h' ⟨b, hb469, rfl, rfl⟩
    refine hK14 _ _ ?_; clear hK14
    refine V_condb rfl (fun c469 => ?_) (fun c469 => ?_)
    · replace c469 := hb469.1 c469
      refine V_skipk [0, 1, 6, 7] (by simp only [proj, lk, reduceIte, Nat.reduceEqDiff]; rfl) ?_
      refine hK13 _ _ ?_; clear hK13
      refine V_seq (fun K16 hK16 => ?_)
      refine V_block ?_
      refine V_sr T.mix (by kernel_rfl) (fun K17 hK17 => ?_)
      refine S_mv rfl ?_
      refine S_nc rfl ?_
      first | refine S_fa0 T.f42_2 rfl ?_ | refine S_fa T.f42_2 rfl ?_
      first | refine S_fa0 T.f38_2 rfl ?_ | refine S_fa T.f38_2 rfl ?_
      refine S_ldK T.ag36 rfl (fun K' hK' => ?_)
      simp (disch := omega) only [u0, u1, u2, u3, u4, u5, u6, u7, u8, u9, oP_some, Nat.add_zero]
      refine hK' _ ?_; clear hK' K'
      refine S_call T.hb13 rfl ?_
      refine FC.mono (mlmark_spec hk A.D A.Y A.M uk.q w.lm) ?_
      rintro v' hm ⟨rfl, hlmm, hEd⟩
      obtain ⟨tgm, wm, tlm, _⟩ := w.turnq (hEd.mono fun _ e => .inl e) hlmm (fun b e => by rcases e with e | e | e; (exact .inl (.inl e)); (cases e); (cases e))
      have hkpm : KP tgk tgm hk hm := KP.of (hEd.mono fun _ e => (.inl e : LT uk.q A.D _)) (fun b e => by rw [w.tq b e]; omega) tlm
      have hEm : Ext (fun b => h.size ≤ b) h hm := hE.trans (by have h9 := w.low hkpm; rw [hAb] at h9; exact h9)
      refine S_nil (hK17 _ _ (V_keep [0, 1, 6, 7] (by simp only [proj, lk, reduceIte, Nat.reduceEqDiff]; rfl) ?_)); clear hK17
      refine V_seq (fun K18 hK18 => ?_)
      refine V_sr T.mix (by kernel_rfl) (fun K19 hK19 => ?_)
      refine S_mv rfl ?_
      refine S_mv rfl ?_
      refine S_mv rfl ?_
      obtain ⟨sb, so, rfl, hlt, k, oa, ob, oc, os, ot, hc⟩ := (hs.ext (Nat.le_refl _) hEm) i (by exact c469.1)
      refine S_ix T.el22 rfl rfl (by omega) (by omega) ?_
      refine S_ldn T.ag49 rfl (by simpa using hc) ?_
      refine S_call T.hb14 rfl ?_
      refine FC.mono (play_spec hm tgm A _ (12 * i) wm k oa ob oc os ot (by omega) (by show 0 ≤ 1000; omega)) ?_
      rintro v' h4 ⟨rfl, tg4, u4x, w4, hkp4⟩
      have hE4 : Ext (fun b => h.size ≤ b) h h4 := hEm.trans (by have h9 := wm.low hkp4; rw [hAb] at h9; exact h9)
      refine S_notb rfl ?_
      refine S_nil (hK19 _ _ (V_keep [0, 1, 6, 7, 62] (by simp only [proj, lk, reduceIte, Nat.reduceEqDiff]; rfl) ?_)); clear hK19
      refine V_condb rfl (fun c471 => ?_) (fun c471 => ?_)
      · skip
        cases c471
      · skip
        refine V_skipk [0, 1, 6, 7] (by simp only [proj, lk, reduceIte, Nat.reduceEqDiff]; rfl) ?_
        refine hK18 _ _ ?_; clear hK18
        refine V_seq (fun K20 hK20 => ?_)
        refine V_sr T.mix (by kernel_rfl) (fun K21 hK21 => ?_)
        refine S_mv rfl ?_
        refine S_call T.hb11 rfl ?_
        refine FC.mono (setsalike_spec h4 tg4 A u4x (12 * i + 12) w4) ?_
        rintro v' h5 ⟨rfl, hE5⟩
        have w5 := w4.new hE5
        try clear u0 u1 u2 u3 u4 u5 u6 u7 u8 u9 huok
        obtain ⟨u0, u1, u2, u3, u4, u5, u6, u7, u8, u9, huok⟩ := uq (w5.dd)
        refine S_notb rfl ?_
        refine S_nil (hK21 _ _ (V_keep [0, 1, 6, 7, 67] (by simp only [proj, lk, reduceIte, Nat.reduceEqDiff]; rfl) ?_)); clear hK21
        refine V_condb rfl (fun c474 => ?_) (fun c474 => ?_)
        · skip
          cases c474
        · skip
          refine V_skipk [0, 1, 6, 7] (by simp only [proj, lk, reduceIte, Nat.reduceEqDiff]; rfl) ?_
          refine hK20 _ _ ?_; clear hK20
          refine V_seq (fun K22 hK22 => ?_)
          refine V_sr T.mix (by kernel_rfl) (fun K23 hK23 => ?_)
          refine S_mv rfl ?_
          refine S_nc rfl ?_
          first | refine S_fa0 T.f42_0 rfl ?_ | refine S_fa T.f42_0 rfl ?_
          refine S_ldnK T.ag31 rfl (fun K' hK' => ?_)
          simp (disch := omega) only [u0, u1, u2, u3, u4, u5, u6, u7, u8, u9, oPs_cons, oPs_nil, oP_some, Nat.reduceAdd, Nat.add_zero]
          refine hK' _ ?_; clear hK' K'
          refine S_mv rfl ?_
          refine S_nc rfl ?_
          first | refine S_fa0 T.f42_2 rfl ?_ | refine S_fa T.f42_2 rfl ?_
          refine S_ldnK T.ag38 rfl (fun K' hK' => ?_)
          simp (disch := omega) only [u0, u1, u2, u3, u4, u5, u6, u7, u8, u9, oPs_cons, oPs_nil, oP_some, Nat.reduceAdd, Nat.add_zero]
          refine hK' _ ?_; clear hK' K'
          refine S_call T.hb15 rfl ?_
          refine FC.mono (gauge_spec h5 A.C A.X A.D A.M A.Y u4x.W w5.wx.b u4x.mm u4x.cl u4x.G u4x.F u4x.s w5.mv w5.vs) ?_
          rintro v' h6 ⟨rfl, hE6⟩
          have w6 := w5.new hE6
          have hE06 : Ext (fun b => h.size ≤ b) h h6 := (hE4.trans (hE5.mono fun _ f => f.elim)).trans (hE6.mono fun _ f => f.elim)
          try clear u0 u1 u2 u3 u4 u5 u6 u7 u8 u9 huok
          obtain ⟨u0, u1, u2, u3, u4, u5, u6, u7, u8, u9, huok⟩ := uq (w6.dd)
          refine S_notb rfl ?_
          refine S_nil (hK23 _ _ (V_keep [0, 1, 6, 7, 79] (by simp only [proj, lk, reduceIte, Nat.reduceEqDiff]; rfl) ?_)); clear hK23
          refine V_condb rfl (fun c477 => ?_) (fun c477 => ?_)
          · skip
            cases c477
          · skip
            refine V_skipk [0, 1, 6, 7] (by simp only [proj, lk, reduceIte, Nat.reduceEqDiff]; rfl) ?_
            refine hK22 _ _ ?_; clear hK22
            refine V_seq (fun K24 hK24 => ?_)
            refine V_sr T.mix (by kernel_rfl) (fun K25 hK25 => ?_)
            refine S_mv rfl ?_
            refine S_call T.hb16 rfl ?_
            refine FC.mono (untouched_spec h6 tg4 A u4x (12 * i + 12) w6) ?_
            rintro v' h' ⟨rfl, rfl⟩
            refine S_notb rfl ?_
            refine S_nil (hK25 _ _ (V_keep [0, 1, 6, 7, 84] (by simp only [proj, lk, reduceIte, Nat.reduceEqDiff]; rfl) ?_)); clear hK25
            refine V_condb rfl (fun c480 => ?_) (fun c480 => ?_)
            · skip
              cases c480
            · skip
              refine V_skipk [0, 1, 6, 7] (by simp only [proj, lk, reduceIte, Nat.reduceEqDiff]; rfl) ?_
              refine hK24 _ _ ?_; clear hK24
              refine V_sr T.mix (by kernel_rfl) (fun K26 hK26 => ?_)
              refine S_mv rfl ?_
              refine S_not rfl ?_
              refine S_nil (hK26 _ _ (V_keep [0, 1, 6, 7, 88] (by simp only [proj, lk, reduceIte, Nat.reduceEqDiff]; rfl) ?_)); clear hK26
              refine V_condp rfl (fun c483 => ?_) (fun c483 => ?_)
              · skip
                refine V_sr T.mix (by kernel_rfl) (fun K27 hK27 => ?_)
                refine S_mv rfl ?_
                refine S_nc rfl ?_
                first | refine S_fa0 T.f42_1 rfl ?_ | refine S_fa T.f42_1 rfl ?_
                refine S_ldK T.ag33 rfl (fun K' hK' => ?_)
                simp (disch := omega) only [u0, u1, u2, u3, u4, u5, u6, u7, u8, u9, oP_some, Nat.add_zero]
                refine hK' _ ?_; clear hK' K'
                refine S_call T.hb12 rfl ?_
                refine FC.mono (lcheck_spec h6 A.K A.C A.X w6.lb) ?_
                rintro v' h' ⟨rfl, rfl⟩
                refine S_notb rfl ?_
                refine S_nil (hK27 _ _ (V_keep [0, 1, 6, 7, 94] (by simp only [proj, lk, reduceIte, Nat.reduceEqDiff]; rfl) ?_)); clear hK27
                refine V_condb rfl (fun c484 => ?_) (fun c484 => ?_)
                · skip
                  cases c484
                · skip
                  refine V_skipk [0, 1, 6, 7] (by simp only [proj, lk, reduceIte, Nat.reduceEqDiff]; rfl) ?_
                  refine hK16 _ _ ?_; clear hK16
                  refine V_reg T.mix (by kernel_rfl) ?_
                  refine S_mv rfl ?_
                  first | refine S_add rfl rfl (by omega) (by omega) ?_ | refine S_bin rfl rfl rfl ?_
                  refine S_as rfl ?_
                  refine S_nilk [0, 1, 6, 7] (by simp only [proj, lk, reduceIte, Nat.reduceEqDiff]; rfl) ?_
                  exact hK12 _ _ ⟨_, by omega, i + 1, h6, tg4, u4x, by omega, by omega, w6, hE06, rfl, rfl, rfl⟩
              · skip
                refine V_skipk [0, 1, 6, 7] (by simp only [proj, lk, reduceIte, Nat.reduceEqDiff]; rfl) ?_
                refine hK16 _ _ ?_; clear hK16
                refine V_reg T.mix (by kernel_rfl) ?_
                refine S_mv rfl ?_
                first | refine S_add rfl rfl (by omega) (by omega) ?_ | refine S_bin rfl rfl rfl ?_
                refine S_as rfl ?_
                refine S_nilk [0, 1, 6, 7] (by simp only [proj, lk, reduceIte, Nat.reduceEqDiff]; rfl) ?_
                exact hK12 _ _ ⟨_, by omega, i + 1, h6, tg4, u4x, by omega, by omega, w6, hE06, rfl, rfl, rfl⟩
    · replace c469 : ¬ _ := fun hp => Bool.false_ne_true (c469.symm.trans (hb469.2 hp))
      refine V_exitk [0] rfl (by simp only [proj, lk, reduceIte, Nat.reduceEqDiff]; rfl) ?_
      refine hK10 _ _ ?_; clear hK10
      refine V_seq (fun K28 hK28 => ?_)
      refine V_sr T.mix (by kernel_rfl) (fun K29 hK29 => ?_)
      refine S_mv rfl ?_
      refine S_lenl T.el22 rfl ?_
      refine S_bin rfl rfl rfl ?_
      refine S_nil (hK29 _ _ (V_keep [0, 99] (by simp only [proj, lk, reduceIte, Nat.reduceEqDiff]; rfl) ?_)); clear hK29
      refine V_condp rfl (fun c489 => ?_) (fun c489 => ?_)
      · skip
        refine V_sr T.mix (by kernel_rfl) (fun K30 hK30 => ?_)
        refine S_mv rfl ?_
        refine S_lenl T.el22 rfl ?_
        refine S_as rfl ?_
        refine S_as rfl ?_
        refine S_nil (hK30 _ _ (V_keep [4, 5] (by simp only [proj, lk, reduceIte, Nat.reduceEqDiff]; rfl) ?_)); clear hK30
        refine V_ret ?_
        refine hR _ _ (ret2 rfl rfl rfl ?_)
        exact ⟨⟨_, rfl⟩, hE⟩
      · skip
        refine V_skipk [] (by simp only [proj, lk, reduceIte, Nat.reduceEqDiff]; rfl) ?_
        refine hK28 _ _ ?_; clear hK28
        refine V_sr T.mix (by kernel_rfl) (fun K31 hK31 => ?_)
        refine S_as rfl ?_
        refine S_as rfl ?_
        refine S_nil (hK31 _ _ (V_keep [4, 5] (by simp only [proj, lk, reduceIte, Nat.reduceEqDiff]; rfl) ?_)); clear hK31
        refine V_ret ?_
        refine hR _ _ (ret2 rfl rfl rfl ?_)
        exact ⟨⟨_, rfl⟩, hE⟩
set_option maxHeartbeats 400000 in
theorem rut_spec (h : Heap) (sa : Option Addr) (n cap : Nat) (hs : Scr h.size h sa n) (hn : n ≤ 9223372036854775807) :
    FC Tryz.prog 5 (#[.slice sa n cap] : Array Value) h fun v h' => v = .int .i64 (-1) ∧ Ext (fun b => h.size ≤ b) h h' := by
  refine FC_of [(0, .slice sa n cap)] Tryz.func5 rfl Tryz.ntmps5 (by simp) rfl (fun R hR => ?_)
  refine V_sr T.mix (by kernel_rfl) (fun K1 hK1 => ?_)
  refine S_as rfl ?_
  refine S_nil (hK1 _ _ (V_keep [0] (by simp only [proj, lk, reduceIte, Nat.reduceEqDiff]; rfl) ?_)); clear hK1
  refine V_sr T.mix (by kernel_rfl) (fun K2 hK2 => ?_)
  refine S_mv rfl ?_
  refine S_call T.hb7 rfl ?_
  refine FC.mono (walk_spec h sa n cap false hs hn) ?_
  rintro v h2 ⟨⟨j, rfl⟩, hE⟩
  refine S_mv rfl ?_
  refine S_ex rfl rfl ?_
  refine S_ex rfl rfl ?_
  refine S_as rfl ?_
  refine S_as rfl ?_
  refine S_nil (hK2 _ _ (V_keep [3] (by simp only [proj, lk, reduceIte, Nat.reduceEqDiff]; rfl) ?_)); clear hK2
  refine V_sr T.mix (by kernel_rfl) (fun K3 hK3 => ?_)
  refine S_mv rfl ?_
  refine S_as rfl ?_
  refine S_nil (hK3 _ _ (V_keep [2] (by simp only [proj, lk, reduceIte, Nat.reduceEqDiff]; rfl) ?_)); clear hK3
  refine V_ret ?_
  refine hR _ _ (ret1 rfl rfl ?_)
  exact ⟨rfl, hE⟩
set_option maxHeartbeats 400000 in
theorem rqut_spec (h : Heap) (sa : Option Addr) (n cap : Nat) (hs : Scr h.size h sa n) (hn : n ≤ 9223372036854775807) :
    FC Tryz.prog 6 (#[.slice sa n cap] : Array Value) h fun v h' => v = .int .i64 (-1) ∧ Ext (fun b => h.size ≤ b) h h' := by
  refine FC_of [(0, .slice sa n cap)] Tryz.func6 rfl Tryz.ntmps6 (by simp) rfl (fun R hR => ?_)
  refine V_sr T.mix (by kernel_rfl) (fun K1 hK1 => ?_)
  refine S_as rfl ?_
  refine S_nil (hK1 _ _ (V_keep [0] (by simp only [proj, lk, reduceIte, Nat.reduceEqDiff]; rfl) ?_)); clear hK1
  refine V_sr T.mix (by kernel_rfl) (fun K2 hK2 => ?_)
  refine S_mv rfl ?_
  refine S_call T.hb7 rfl ?_
  refine FC.mono (walk_spec h sa n cap true hs hn) ?_
  rintro v h2 ⟨⟨j, rfl⟩, hE⟩
  refine S_mv rfl ?_
  refine S_ex rfl rfl ?_
  refine S_ex rfl rfl ?_
  refine S_as rfl ?_
  refine S_as rfl ?_
  refine S_nil (hK2 _ _ (V_keep [3] (by simp only [proj, lk, reduceIte, Nat.reduceEqDiff]; rfl) ?_)); clear hK2
  refine V_sr T.mix (by kernel_rfl) (fun K3 hK3 => ?_)
  refine S_mv rfl ?_
  refine S_as rfl ?_
  refine S_nil (hK3 _ _ (V_keep [2] (by simp only [proj, lk, reduceIte, Nat.reduceEqDiff]; rfl) ?_)); clear hK3
  refine V_ret ?_
  refine hR _ _ (ret1 rfl rfl ?_)
  exact ⟨rfl, hE⟩
set_option maxHeartbeats 400000 in
theorem ref_spec (h : Heap) (sa : Option Addr) (n cap : Nat) (hs : Scr h.size h sa n) (hn : n ≤ 9223372036854775807) :
    FC Tryz.prog 3 (#[.slice sa n cap] : Array Value) h fun v h' => v = .bool true ∧ Ext (fun b => h.size ≤ b) h h' := by
  refine FC_of [(0, .slice sa n cap)] Tryz.func3 rfl Tryz.ntmps3 (by simp) rfl (fun R hR => ?_)
  refine V_sr T.mix (by kernel_rfl) (fun K1 hK1 => ?_)
  refine S_as rfl ?_
  refine S_nil (hK1 _ _ (V_keep [0] (by simp only [proj, lk, reduceIte, Nat.reduceEqDiff]; rfl) ?_)); clear hK1
  refine V_sr T.mix (by kernel_rfl) (fun K2 hK2 => ?_)
  refine S_mv rfl ?_
  refine S_call T.hb5 rfl ?_
  refine FC.mono (rut_spec h sa n cap hs hn) ?_
  rintro v h2 ⟨rfl, hE⟩
  refine S_bin rfl rfl rfl ?_
  refine S_as rfl ?_
  refine S_nil (hK2 _ _ (V_keep [2] (by simp only [proj, lk, reduceIte, Nat.reduceEqDiff]; rfl) ?_)); clear hK2
  refine V_ret ?_
  refine hR _ _ (ret1 rfl rfl ?_)
  exact ⟨rfl, hE⟩
set_option maxHeartbeats 400000 in
theorem refq_spec (h : Heap) (sa : Option Addr) (n cap : Nat) (hs : Scr h.size h sa n) (hn : n ≤ 9223372036854775807) :
    FC Tryz.prog 4 (#[.slice sa n cap] : Array Value) h fun v h' => v = .bool true ∧ Ext (fun b => h.size ≤ b) h h' := by
  refine FC_of [(0, .slice sa n cap)] Tryz.func4 rfl Tryz.ntmps4 (by simp) rfl (fun R hR => ?_)
  refine V_sr T.mix (by kernel_rfl) (fun K1 hK1 => ?_)
  refine S_as rfl ?_
  refine S_nil (hK1 _ _ (V_keep [0] (by simp only [proj, lk, reduceIte, Nat.reduceEqDiff]; rfl) ?_)); clear hK1
  refine V_sr T.mix (by kernel_rfl) (fun K2 hK2 => ?_)
  refine S_mv rfl ?_
  refine S_call T.hb6 rfl ?_
  refine FC.mono (rqut_spec h sa n cap hs hn) ?_
  rintro v h2 ⟨rfl, hE⟩
  refine S_bin rfl rfl rfl ?_
  refine S_as rfl ?_
  refine S_nil (hK2 _ _ (V_keep [2] (by simp only [proj, lk, reduceIte, Nat.reduceEqDiff]; rfl) ?_)); clear hK2
  refine V_ret ?_
  refine hR _ _ (ret1 rfl rfl ?_)
  exact ⟨rfl, hE⟩
end Go.Proofs.Qxb6500400aGreat
