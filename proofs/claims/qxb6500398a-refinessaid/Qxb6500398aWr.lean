import Derived.Test.Qxb6500398aWq
set_option linter.unusedVariables false
set_option linter.unusedSimpArgs false
namespace Go.Proofs.Qxb6500398a
open Go.Eng Go.Cnf Go.Chk

structure WL (base : Nat) (h : Heap) (C X : Nat) (a : Option Addr) (cap : Nat) (sl : Nat → Option (List Int)) (KC M D : Nat) (t1 t2 : ByteArray) : Prop where
  r : RS h C X a cap sl
  m : KM h KC M
  d : B h D #[.string t1, .string t2] 37
  s1 : t1.size ≤ 1048577
  s2 : t2.size ≤ 1048577
  nf : ∀ z, FB C X a z → z ≠ KC ∧ z ≠ M ∧ z ≠ D
  dk : D ≠ KC ∧ D ≠ M
  lo : ∀ z, FB C X a z ∨ z = KC ∨ z = M ∨ z = D → base ≤ z
  hb : base ≤ h.size
section wl
variable {base : Nat} {h h' : Heap} {C X : Nat} {a : Option Addr} {cap : Nat} {sl : Nat → Option (List Int)} {KC M D : Nat} {t1 t2 : ByteArray}
theorem WL.ml (w : WL base h C X a cap sl KC M D t1 t2) : M < h.size := by obtain ⟨u, v, q⟩ := w.m.m; exact q.lt
theorem WL.next (w : WL base h C X a cap sl KC M D t1 t2) {a' : Option Addr} {c' : Nat} {sl' : Nat → Option (List Int)} {t1' t2' : ByteArray} (r' : RS h' C X a' c' sl') (m' : KM h' KC M) (d' : B h' D #[.string t1', .string t2'] 37) (s1' : t1'.size ≤ 1048577) (s2' : t2'.size ≤ 1048577) (hn : ∀ z, FB C X a' z → FB C X a z ∨ h.size ≤ z) (hl : h.size ≤ h'.size) : WL base h' C X a' c' sl' KC M D t1' t2' := by
  have h1 := w.m.k.lt; have h2 := w.ml; have h3 := w.d.lt; have h4 := w.hb
  refine ⟨r', m', d', s1', s2', fun z e => ?_, w.dk, fun z e => ?_, by omega⟩
  · rcases hn z e with q | q
    · exact w.nf z q
    · omega
  · rcases e with e | e
    · rcases hn z e with q | q
      · exact w.lo z (.inl q)
      · omega
    · exact w.lo z (.inr e)
theorem WL.ext (w : WL base h C X a cap sl KC M D t1 t2) {S : Nat → Prop} (he : Ext S h h') (hs : ∀ z, FB C X a z ∨ z = KC ∨ z = M ∨ z = D → ¬ S z) : WL base h' C X a cap sl KC M D t1 t2 :=
  w.next (w.r.ext he (fun z e => hs z (.inl e))) (w.m.ext he (hs _ (.inr (.inl rfl))) (hs _ (.inr (.inr (.inl rfl))))) (w.d.ext he (hs _ (.inr (.inr (.inr rfl))))) w.s1 w.s2 (fun z e => .inl e) he.1
theorem WL.lt (w : WL base h C X a cap sl KC M D t1 t2) {z : Nat} (e : FB C X a z ∨ z = KC ∨ z = M ∨ z = D) : z < h.size := by
  rcases e with e | e | e | e
  · exact w.r.lt e
  · rw [e]; exact w.m.k.lt
  · rw [e]; exact w.ml
  · rw [e]; exact w.d.lt
theorem WL.nf2 (w : WL base h C X a cap sl KC M D t1 t2) : ∀ z, FB C X a z → z ≠ KC ∧ z ≠ M := fun z e => ⟨(w.nf z e).1, (w.nf z e).2.1⟩
end wl
/-- the script, as it lies in the heap -/
def Scr (base : Nat) (h : Heap) (sa : Option Addr) (n : Nat) : Prop := ∀ i, i < n → ∃ sb so, sa = some ⟨sb, so, none⟩ ∧ sb < base ∧ ∃ k a b c s u, cellsH h ⟨sb, so + i * 6, none⟩ 0 6 = some [.int .i64 k, .int .i64 a, .int .i64 b, .int .i64 c, .string s, .string u]
theorem cellsH_same {h h' : Heap} {b o : Nat} (he : h'[b]? = h[b]?) : ∀ (n i : Nat), cellsH h' ⟨b, o, none⟩ i n = cellsH h ⟨b, o, none⟩ i n
  | 0, _ => rfl
  | n + 1, i => by
    have e : cellH h' ((⟨b, o, none⟩ : Addr).add i) = cellH h ((⟨b, o, none⟩ : Addr).add i) := by rw [add_mk]; unfold cellH; simp only [he]
    simp only [cellsH, e, cellsH_same he n (i + 1)]
theorem Scr.ext {base : Nat} {h h' : Heap} {sa : Option Addr} {n : Nat} (hs : Scr base h sa n) (hb : base ≤ h.size) (he : Ext (fun b => base ≤ b) h h') : Scr base h' sa n := by
  intro i hi
  obtain ⟨sb, so, e, hlt, k, a, b, c, s, u, hc⟩ := hs i hi
  exact ⟨sb, so, e, hlt, k, a, b, c, s, u, by rw [cellsH_same (he.2 sb (by omega) (by omega))]; exact hc⟩
set_option maxHeartbeats 1600000 in
theorem play_spec (base : Nat) (h : Heap) (C X : Nat) (a : Option Addr) (cap : Nat) (sl : Nat → Option (List Int)) (KC M D : Nat) (t1 t2 : ByteArray) (w : WL base h C X a cap sl KC M D t1 t2) (k oa ob oc : Int) (os ot : ByteArray) :
    FC Try.prog 12 (#[.agg #[.pointer (some ⟨X, 0, none⟩)], .pointer (some ⟨C, 0, none⟩), .pointer (some ⟨KC, 0, none⟩), .pointer (some ⟨D, 0, none⟩), .agg #[.int .i64 k, .int .i64 oa, .int .i64 ob, .int .i64 oc, .string os, .string ot]] : Array Value) h fun rv h' => ∃ (a' : Option Addr) (c' : Nat) (sl' : Nat → Option (List Int)) (u1 u2 : ByteArray), rv = .bool true ∧ WL base h' C X a' c' sl' KC M D u1 u2 ∧ Ext (fun z => FB C X a z ∨ z = M ∨ z = D) h h' ∧ ∀ z, FB C X a' z → FB C X a z ∨ h.size ≤ z := by
  have hs1 := w.s1
  have hs2 := w.s2
  refine FC_of [(0, .agg #[.pointer (some ⟨X, 0, none⟩)]), (1, .pointer (some ⟨C, 0, none⟩)), (2, .pointer (some ⟨KC, 0, none⟩)), (3, .pointer (some ⟨D, 0, none⟩)), (4, .agg #[.int .i64 k, .int .i64 oa, .int .i64 ob, .int .i64 oc, .string os, .string ot])] Try.func12 rfl Try.ntmps12 (by simp) rfl (fun R hR => ?_)
  refine V_sr T.mix (by kernel_rfl) (fun K1 hK1 => ?_)
  refine S_boxA rfl ?_
  generalize hh : Array.push h _ = h1
  have hX1 : B h1 h.size #[.pointer (some ⟨X, 0, none⟩)] 29 := by rw [← hh]; exact B.new _ _ _
  have hEh1 : Ext (fun _ => False) h h1 := by rw [← hh]; exact Ext.push _ _ _
  have hsh1 : h1.size = h.size + 1 := by rw [← hh]; simp
  clear hh
  refine S_boxA rfl ?_
  generalize hh : Array.push h1 _ = h2
  have hO2 : B h2 h1.size #[.int .i64 k, .int .i64 oa, .int .i64 ob, .int .i64 oc, .string os, .string ot] 41 := by rw [← hh]; exact B.new _ _ _
  have hEh2 : Ext (fun _ => False) h1 h2 := by rw [← hh]; exact Ext.push _ _ _
  have hsh2 : h2.size = h1.size + 1 := by rw [← hh]; simp
  clear hh
  have hX2 := hX1.ext hEh2 (fun f => f)
  have hQ2 := hEh1.trans hEh2
  have w2 := w.ext hQ2 (fun _ _ f => f)
  have o0 : cellH h2 ⟨h1.size, 0, none⟩ = some (.int .i64 k) := hO2.cell 0
  have o4 : cellH h2 ⟨h1.size, 4, none⟩ = some (.string os) := hO2.cell 4
  have o5 : cellH h2 ⟨h1.size, 5, none⟩ = some (.string ot) := hO2.cell 5
  have d0 : cellH h2 ⟨D, 0, none⟩ = some (.string t1) := w2.d.cell 0
  have d1 : cellH h2 ⟨D, 1, none⟩ = some (.string t2) := w2.d.cell 1
  have hDok : ∀ j, j < 2 → okPut h2 ⟨D, j, none⟩ = true := fun j hj => w2.d.ok (by simpa using hj)
  refine S_as rfl ?_
  refine S_nil (hK1 _ _ (V_keep [1, 2, 3, 5, 9] (by simp only [proj, lk, reduceIte, Nat.reduceEqDiff]; rfl) ?_)); clear hK1
  refine V_seq (fun K2 hK2 => ?_)
  refine V_sr T.mix (by kernel_rfl) (fun K3 hK3 => ?_)
  first | refine S_fa0 T.f41_0 rfl ?_ | refine S_fa T.f41_0 rfl ?_
  refine S_ldK T.ag3 rfl (fun K' hK' => ?_)
  simp (disch := omega) only [o0, o4, o5, d0, d1, oP_some, Nat.add_zero]
  refine hK' _ ?_; clear hK' K'
  refine S_nil (hK3 _ _ (V_keep [1, 2, 3, 5, 9, 16] (by simp only [proj, lk, reduceIte, Nat.reduceEqDiff]; rfl) ?_)); clear hK3
  refine V_block ?_
  refine V_sr T.mix (by kernel_rfl) (fun K4 hK4 => ?_)
  refine S_bin rfl rfl rfl ?_
  refine S_as rfl ?_
  refine S_nil (hK4 _ _ (V_keep [1, 2, 3, 5, 9, 16, 17] (by simp only [proj, lk, reduceIte, Nat.reduceEqDiff]; rfl) ?_)); clear hK4
  refine V_condp rfl (fun c115 => ?_) (fun c115 => ?_)
  · skip
    refine V_reg T.mix (by kernel_rfl) ?_
    refine S_mv rfl ?_
    refine S_mv rfl ?_
    refine S_nc rfl ?_
    first | refine S_fa0 T.f37_0 rfl ?_ | refine S_fa T.f37_0 rfl ?_
    refine S_ldK T.ag9 rfl (fun K' hK' => ?_)
    simp (disch := omega) only [o0, o4, o5, d0, d1, oP_some, Nat.add_zero]
    refine hK' _ ?_; clear hK' K'
    first | refine S_fa0 T.f41_4 rfl ?_ | refine S_fa T.f41_4 rfl ?_
    refine S_ldK T.ag9 rfl (fun K' hK' => ?_)
    simp (disch := omega) only [o0, o4, o5, d0, d1, oP_some, Nat.add_zero]
    refine hK' _ ?_; clear hK' K'
    refine S_call T.hb17 rfl ?_
    refine FC.mono (join_spec h2 t1 os (by omega)) ?_
    rintro v' h' ⟨⟨r, rfl, hr⟩, rfl⟩
    refine S_nc rfl ?_
    first | refine S_fa0 T.f37_0 rfl ?_ | refine S_fa T.f37_0 rfl ?_
    refine S_st T.sz9 rfl rfl rfl rfl (by simp (disch := omega) only [hDok]) ?_
    generalize hh : putH _ _ _ = h3
    have hD3 : B h3 (D) #[.string r, .string t2] 37 := by rw [← hh]; exact (w2.d).put 0 _
    have hEh3 : Ext (fun k => k = D) h2 h3 := by rw [← hh]; exact Ext.put _ _ rfl
    clear hh
    have w3 := w2.next (w2.r.ext hEh3 (fun z e q => (w2.nf z e).2.2 q)) (w2.m.ext hEh3 (fun e => w2.dk.1 e.symm) (fun e => w2.dk.2 e.symm)) hD3 (by omega) hs2 (fun z e => .inl e) hEh3.1
    refine S_nilk [] (by simp only [proj, lk, reduceIte, Nat.reduceEqDiff]; rfl) ?_
    refine hK2 _ _ ?_; clear hK2
    refine V_sr T.mix (by kernel_rfl) (fun K5 hK5 => ?_)
    refine S_as rfl ?_
    refine S_nil (hK5 _ _ (V_keep [10] (by simp only [proj, lk, reduceIte, Nat.reduceEqDiff]; rfl) ?_)); clear hK5
    refine V_ret ?_
    refine hR _ _ (ret1 rfl rfl ?_)
    exact ⟨a, cap, sl, _, _, rfl, w3, (hQ2.mono (fun _ f => f.elim)).trans (hEh3.mono (fun z e => .inr (.inr e))), fun z e => .inl e⟩
  · skip
    refine V_sr T.mix (by kernel_rfl) (fun K6 hK6 => ?_)
    refine S_bin rfl rfl rfl ?_
    refine S_as rfl ?_
    refine S_nil (hK6 _ _ (V_keep [1, 2, 3, 5, 9, 16, 29] (by simp only [proj, lk, reduceIte, Nat.reduceEqDiff]; rfl) ?_)); clear hK6
    refine V_condp rfl (fun c117 => ?_) (fun c117 => ?_)
    · skip
      refine V_reg T.mix (by kernel_rfl) ?_
      refine S_mv rfl ?_
      refine S_mv rfl ?_
      refine S_nc rfl ?_
      first | refine S_fa0 T.f37_1 rfl ?_ | refine S_fa T.f37_1 rfl ?_
      refine S_ldK T.ag9 rfl (fun K' hK' => ?_)
      simp (disch := omega) only [o0, o4, o5, d0, d1, oP_some, Nat.add_zero]
      refine hK' _ ?_; clear hK' K'
      first | refine S_fa0 T.f41_4 rfl ?_ | refine S_fa T.f41_4 rfl ?_
      refine S_ldK T.ag9 rfl (fun K' hK' => ?_)
      simp (disch := omega) only [o0, o4, o5, d0, d1, oP_some, Nat.add_zero]
      refine hK' _ ?_; clear hK' K'
      refine S_call T.hb17 rfl ?_
      refine FC.mono (join_spec h2 t2 os (by omega)) ?_
      rintro v' h' ⟨⟨r, rfl, hr⟩, rfl⟩
      refine S_nc rfl ?_
      first | refine S_fa0 T.f37_1 rfl ?_ | refine S_fa T.f37_1 rfl ?_
      refine S_st T.sz9 rfl rfl rfl rfl (by simp (disch := omega) only [hDok]) ?_
      generalize hh : putH _ _ _ = h3
      have hD3 : B h3 (D) #[.string t1, .string r] 37 := by rw [← hh]; exact (w2.d).put 1 _
      have hEh3 : Ext (fun k => k = D) h2 h3 := by rw [← hh]; exact Ext.put _ _ rfl
      clear hh
      have w3 := w2.next (w2.r.ext hEh3 (fun z e q => (w2.nf z e).2.2 q)) (w2.m.ext hEh3 (fun e => w2.dk.1 e.symm) (fun e => w2.dk.2 e.symm)) hD3 hs1 (by omega) (fun z e => .inl e) hEh3.1
      refine S_nilk [] (by simp only [proj, lk, reduceIte, Nat.reduceEqDiff]; rfl) ?_
      refine hK2 _ _ ?_; clear hK2
      refine V_sr T.mix (by kernel_rfl) (fun K7 hK7 => ?_)
      refine S_as rfl ?_
      refine S_nil (hK7 _ _ (V_keep [10] (by simp only [proj, lk, reduceIte, Nat.reduceEqDiff]; rfl) ?_)); clear hK7
      refine V_ret ?_
      refine hR _ _ (ret1 rfl rfl ?_)
      exact ⟨a, cap, sl, _, _, rfl, w3, (hQ2.mono (fun _ f => f.elim)).trans (hEh3.mono (fun z e => .inr (.inr e))), fun z e => .inl e⟩
    · skip
      refine V_sr T.mix (by kernel_rfl) (fun K8 hK8 => ?_)
      refine S_bin rfl rfl rfl ?_
      refine S_as rfl ?_
      refine S_nil (hK8 _ _ (V_keep [1, 2, 3, 5, 9, 16, 41] (by simp only [proj, lk, reduceIte, Nat.reduceEqDiff]; rfl) ?_)); clear hK8
      refine V_condp rfl (fun c119 => ?_) (fun c119 => ?_)
      · skip
        refine V_sr T.mix (by kernel_rfl) (fun K9 hK9 => ?_)
        refine S_mv rfl ?_
        refine S_nc rfl ?_
        first | refine S_fa0 T.f37_0 rfl ?_ | refine S_fa T.f37_0 rfl ?_
        refine S_ldK T.ag9 rfl (fun K' hK' => ?_)
        simp (disch := omega) only [o0, o4, o5, d0, d1, oP_some, Nat.add_zero]
        refine hK' _ ?_; clear hK' K'
        first | refine S_fa0 T.f41_4 rfl ?_ | refine S_fa T.f41_4 rfl ?_
        refine S_ldK T.ag9 rfl (fun K' hK' => ?_)
        simp (disch := omega) only [o0, o4, o5, d0, d1, oP_some, Nat.add_zero]
        refine hK' _ ?_; clear hK' K'
        refine S_call T.hb17 rfl ?_
        refine FC.mono (join_spec h2 t1 os (by omega)) ?_
        rintro v' h' ⟨⟨r1, rfl, hr1⟩, rfl⟩
        refine S_as rfl ?_
        refine S_nil (hK9 _ _ (V_keep [1, 2, 3, 5, 9, 11] (by simp only [proj, lk, reduceIte, Nat.reduceEqDiff]; rfl) ?_)); clear hK9
        refine V_sr T.mix (by kernel_rfl) (fun K10 hK10 => ?_)
        refine S_mv rfl ?_
        refine S_nc rfl ?_
        first | refine S_fa0 T.f37_1 rfl ?_ | refine S_fa T.f37_1 rfl ?_
        refine S_ldK T.ag9 rfl (fun K' hK' => ?_)
        simp (disch := omega) only [o0, o4, o5, d0, d1, oP_some, Nat.add_zero]
        refine hK' _ ?_; clear hK' K'
        first | refine S_fa0 T.f41_5 rfl ?_ | refine S_fa T.f41_5 rfl ?_
        refine S_ldK T.ag9 rfl (fun K' hK' => ?_)
        simp (disch := omega) only [o0, o4, o5, d0, d1, oP_some, Nat.add_zero]
        refine hK' _ ?_; clear hK' K'
        refine S_call T.hb17 rfl ?_
        refine FC.mono (join_spec h2 t2 ot (by omega)) ?_
        rintro v' h' ⟨⟨r2, rfl, hr2⟩, rfl⟩
        refine S_as rfl ?_
        refine S_nil (hK10 _ _ (V_keep [1, 2, 3, 5, 11, 12] (by simp only [proj, lk, reduceIte, Nat.reduceEqDiff]; rfl) ?_)); clear hK10
        refine V_sr T.mix (by kernel_rfl) (fun K11 hK11 => ?_)
        refine S_mv rfl ?_
        refine S_mv rfl ?_
        refine S_nc rfl ?_
        first | refine S_fa0 T.f37_0 rfl ?_ | refine S_fa T.f37_0 rfl ?_
        refine S_st T.sz9 rfl rfl rfl rfl (by simp (disch := omega) only [hDok]) ?_
        generalize hh : putH _ _ _ = h3
        have hD3 : B h3 (D) #[.string ⟨#[]⟩, .string t2] 37 := by rw [← hh]; exact (w2.d).put 0 _
        have hEh3 : Ext (fun k => k = D) h2 h3 := by rw [← hh]; exact Ext.put _ _ rfl
        clear hh
        clear hDok
        have hDok : ∀ j, j < 2 → okPut h3 ⟨D, j, none⟩ = true := fun j hj => hD3.ok (by simpa using hj)
        refine S_nc rfl ?_
        first | refine S_fa0 T.f37_1 rfl ?_ | refine S_fa T.f37_1 rfl ?_
        refine S_st T.sz9 rfl rfl rfl rfl (by simp (disch := omega) only [hDok]) ?_
        generalize hh : putH _ _ _ = h4
        have hD4 : B h4 (D) #[.string ⟨#[]⟩, .string ⟨#[]⟩] 37 := by rw [← hh]; exact (hD3).put 1 _
        have hEh4 : Ext (fun k => k = D) h3 h4 := by rw [← hh]; exact Ext.put _ _ rfl
        clear hh
        have hED := hEh3.trans hEh4
        have w4 := w2.next (w2.r.ext hED (fun z e q => (w2.nf z e).2.2 q)) (w2.m.ext hED (fun e => w2.dk.1 e.symm) (fun e => w2.dk.2 e.symm)) hD4 (by decide) (by decide) (fun z e => .inl e) hED.1
        have hX4 := hX2.ext hED (fun e => by have h9 := w.d.lt; omega)
        refine S_nil (hK11 _ _ (V_keep [1, 2, 5, 11, 12] (by simp only [proj, lk, reduceIte, Nat.reduceEqDiff]; rfl) ?_)); clear hK11
        refine V_sr T.mix (by kernel_rfl) (fun K12 hK12 => ?_)
        refine S_ldn T.ag29 rfl ((hX4).all rfl) ?_
        refine S_mv rfl ?_
        refine S_mv rfl ?_
        refine S_mv rfl ?_
        refine S_mv rfl ?_
        refine S_call T.hb18 rfl ?_
        refine FC.mono (samecheck_spec h4 C X a cap sl w4.r KC M w4.m w4.nf2 r1 r2) ?_
        rintro v' h5 ⟨a5, c5, sl5, rfl, rs5, km5, hE5, hn5⟩
        have hs5 := hE5.1
        have hD5 := w4.d.ext hE5 (fun e => by rcases e with e | e; (exact (w4.nf D e).2.2 rfl); (exact w4.dk.2 e))
        have w5 := w4.next rs5 km5 hD5 w4.s1 w4.s2 hn5 hs5
        refine S_mv rfl ?_
        refine S_ex rfl rfl ?_
        refine S_ex rfl rfl ?_
        refine S_allocA T.z55 ?_
        generalize hh : Array.push h5 _ = h6
        have hV6 : B h6 h5.size #[.int .i64 0, .int .i64 0, .int .i64 0] 55 := by rw [← hh]; exact B.new _ _ _
        have hEh6 : Ext (fun _ => False) h5 h6 := by rw [← hh]; exact Ext.push _ _ _
        have hsh6 : h6.size = h5.size + 1 := by rw [← hh]; simp
        clear hh
        have hVok : ∀ j, j < 3 → okPut h6 ⟨h5.size, j, none⟩ = true := fun j hj => hV6.ok (by simpa using hj)
        refine S_as rfl ?_
        refine S_stl T.sz55 rfl rfl rfl rfl (fun j hj => by simp (disch := omega) only [hVok]) ?_
        generalize hh : putsH _ _ _ _ = h7
        have hV7 : B h7 (h5.size) #[.int .i64 ((chkF r1 r2).1), .int .i64 ((chkF r1 r2).2.1), .int .i64 ((chkF r1 r2).2.2)] 55 := by rw [← hh]; exact B.puts_all (hV6) (cs' := #[.int .i64 ((chkF r1 r2).1), .int .i64 ((chkF r1 r2).2.1), .int .i64 ((chkF r1 r2).2.2)]) rfl
        have hEh7 : Ext (fun k => k = h5.size) h6 h7 := by rw [← hh]; exact Ext.puts (S := fun k => k = h5.size) rfl _ _ _
        clear hh
        refine S_nil (hK12 _ _ (V_keep [13] (by simp only [proj, lk, reduceIte, Nat.reduceEqDiff]; rfl) ?_)); clear hK12
        refine V_sr T.mix (by kernel_rfl) (fun K13 hK13 => ?_)
        refine S_mv rfl ?_
        refine S_as rfl ?_
        refine S_nil (hK13 _ _ (V_keep [10] (by simp only [proj, lk, reduceIte, Nat.reduceEqDiff]; rfl) ?_)); clear hK13
        refine V_ret ?_
        refine hR _ _ (ret1 rfl rfl ?_)
        exact ⟨a5, c5, sl5, _, _, rfl, (w5.ext hEh6 (fun _ _ f => f)).ext hEh7 (fun z e q => by have h9 := w5.lt e; omega), ((((hQ2.mono (fun _ f => f.elim)).trans (hED.mono (fun z e => .inr (.inr e)))).step hE5 (fun z hz e => by rcases e with e | e; (exact .inl e); (exact .inr (.inl e)))).step hEh6 (fun _ _ f => f.elim)).step hEh7 (fun z hz e => by have h9 := hQ2.1; have h8 := hED.1; omega), fun z e => by rcases hn5 z e with q | q; (exact .inl q); (exact .inr (by have h9 := hQ2.1; have h8 := hED.1; omega))⟩
      · skip
        refine V_sr T.mix (by kernel_rfl) (fun K14 hK14 => ?_)
        refine S_bin rfl rfl rfl ?_
        refine S_as rfl ?_
        refine S_nil (hK14 _ _ (V_keep [1, 2, 5, 9, 16, 73] (by simp only [proj, lk, reduceIte, Nat.reduceEqDiff]; rfl) ?_)); clear hK14
        refine V_condp rfl (fun c125 => ?_) (fun c125 => ?_)
        · skip
          refine V_sr T.mix (by kernel_rfl) (fun K15 hK15 => ?_)
          refine S_mv rfl ?_
          refine S_call T.hb11 rfl ?_
          refine FC.mono (clean_spec h2 C X sl w2.r.ks) ?_
          rintro v' h' ⟨rfl, rfl⟩
          refine S_as rfl ?_
          refine S_nil (hK15 _ _ (V_keep [10] (by simp only [proj, lk, reduceIte, Nat.reduceEqDiff]; rfl) ?_)); clear hK15
          refine V_ret ?_
          refine hR _ _ (ret1 rfl rfl ?_)
          exact ⟨a, cap, sl, t1, t2, rfl, w2, hQ2.mono (fun _ f => f.elim), fun z e => .inl e⟩
        · skip
          refine V_sr T.mix (by kernel_rfl) (fun K16 hK16 => ?_)
          refine S_bin rfl rfl rfl ?_
          refine S_as rfl ?_
          refine S_nil (hK16 _ _ (V_keep [1, 2, 5, 9, 77] (by simp only [proj, lk, reduceIte, Nat.reduceEqDiff]; rfl) ?_)); clear hK16
          refine V_condp rfl (fun c127 => ?_) (fun c127 => ?_)
          · skip
            refine V_sr T.mix (by kernel_rfl) (fun K17 hK17 => ?_)
            refine S_ldn T.ag29 rfl ((hX2).all rfl) ?_
            refine S_mv rfl ?_
            refine S_mv rfl ?_
            first | refine S_fa0 T.f41_4 rfl ?_ | refine S_fa T.f41_4 rfl ?_
            refine S_ldK T.ag9 rfl (fun K' hK' => ?_)
            simp (disch := omega) only [o0, o4, o5, d0, d1, oP_some, Nat.add_zero]
            refine hK' _ ?_; clear hK' K'
            refine S_call T.hb19 rfl ?_
            refine FC.mono (complete_spec h2 C X a cap sl w2.r KC M w2.m w2.nf2 os) ?_
            rintro v' h5 ⟨a5, c5, sl5, rfl, rs5, km5, hE5, hn5⟩
            have hs5 := hE5.1
            have hD5 := w2.d.ext hE5 (fun e => by rcases e with e | e; (exact (w2.nf D e).2.2 rfl); (exact w2.dk.2 e))
            have w5 := w2.next rs5 km5 hD5 w2.s1 w2.s2 hn5 hs5
            refine S_as rfl ?_
            refine S_nil (hK17 _ _ (V_keep [10] (by simp only [proj, lk, reduceIte, Nat.reduceEqDiff]; rfl) ?_)); clear hK17
            refine V_ret ?_
            refine hR _ _ (ret1 rfl rfl ?_)
            exact ⟨a5, c5, sl5, _, _, rfl, w5, (hQ2.mono (fun _ f => f.elim)).step hE5 (fun z hz e => by rcases e with e | e; (exact .inl e); (exact .inr (.inl e))), fun z e => by rcases hn5 z e with q | q; (exact .inl q); (exact .inr (by have h9 := hQ2.1; omega))⟩
          · skip
            refine V_skipk [] (by simp only [proj, lk, reduceIte, Nat.reduceEqDiff]; rfl) ?_
            refine hK2 _ _ ?_; clear hK2
            refine V_sr T.mix (by kernel_rfl) (fun K18 hK18 => ?_)
            refine S_as rfl ?_
            refine S_nil (hK18 _ _ (V_keep [10] (by simp only [proj, lk, reduceIte, Nat.reduceEqDiff]; rfl) ?_)); clear hK18
            refine V_ret ?_
            refine hR _ _ (ret1 rfl rfl ?_)
            exact ⟨a, cap, sl, t1, t2, rfl, w2, hQ2.mono (fun _ f => f.elim), fun z e => .inl e⟩
set_option maxHeartbeats 3200000 in
theorem walk_spec (h : Heap) (sa : Option Addr) (n cap : Nat) (q : Bool) (hs : Scr h.size h sa n) (hn : n ≤ 9223372036854775807) :
    FC Try.prog 7 (#[.slice sa n cap, .bool (decide (q = true))] : Array Value) h fun v h' => (∃ j : Int, v = .tuple #[.int .i64 (-1), .int .i64 j]) ∧ Ext (fun b => h.size ≤ b) h h' := by
  refine FC_of [(0, .slice sa n cap), (1, .bool (decide (q = true)))] Try.func7 rfl Try.ntmps7 (by simp) rfl (fun R hR => ?_)
  refine V_sr T.mix (by kernel_rfl) (fun K1 hK1 => ?_)
  refine S_as rfl ?_
  refine S_as rfl ?_
  refine S_nil (hK1 _ _ (V_keep [0, 1] (by simp only [proj, lk, reduceIte, Nat.reduceEqDiff]; rfl) ?_)); clear hK1
  refine V_sr T.mix (by kernel_rfl) (fun K2 hK2 => ?_)
  refine S_call T.hb8 rfl ?_
  refine FC.mono (ground_spec h) ?_
  rintro v' h0 ⟨X, rfl, hP0, hX0, hE0⟩
  have hl0 := hE0.1
  have hXl := hP0.s.lt
  refine S_allocA T.z29 ?_
  generalize hh : Array.push h0 _ = h1
  have hB1 : B h1 h0.size #[.pointer none] 29 := by rw [← hh]; exact B.new _ _ _
  have hEh1 : Ext (fun _ => False) h0 h1 := by rw [← hh]; exact Ext.push _ _ _
  have hsh1 : h1.size = h0.size + 1 := by rw [← hh]; simp
  clear hh
  have hok : ∀ j, j < 1 → okPut h1 ⟨h0.size, j, none⟩ = true := fun j hj => hB1.ok (by simpa using hj)
  refine S_stl T.sz29 rfl rfl rfl rfl (fun j hj => by simp (disch := omega) only [hok]) ?_
  generalize hh : putsH _ _ _ _ = h2
  have hB2 : B h2 (h0.size) #[.pointer (some ⟨X, 0, none⟩)] 29 := by rw [← hh]; exact B.puts_all (hB1) (cs' := #[.pointer (some ⟨X, 0, none⟩)]) rfl
  have hEh2 : Ext (fun k => k = h0.size) h1 h2 := by rw [← hh]; exact Ext.puts (S := fun k => k = h0.size) rfl _ _ _
  clear hh
  generalize hBe : h0.size = BB at hB2 hEh2
  try rw [hBe]
  have hl2 := hEh2.1
  have b0 : cellH h2 ⟨BB, 0, none⟩ = some (.pointer (some ⟨X, 0, none⟩)) := hB2.cell 0
  refine S_nil (hK2 _ _ (V_keep [0, 1, 6] (by simp only [proj, lk, reduceIte, Nat.reduceEqDiff]; rfl) ?_)); clear hK2
  refine V_sr T.mix (by kernel_rfl) (fun K3 hK3 => ?_)
  first | refine S_fa0 T.f29_0 rfl ?_ | refine S_fa T.f29_0 rfl ?_
  refine S_ldK T.ag27 rfl (fun K' hK' => ?_)
  simp (disch := omega) only [b0, oP_some, Nat.add_zero]
  refine hK' _ ?_; clear hK' K'
  refine S_call T.hb9 rfl ?_
  generalize hCe : h2.size = C
  refine FC.mono (cnew_spec h2 X) ?_
  rintro v' h3 ⟨rfl, hks3, hE3⟩
  rw [hCe] at hks3
  rw [hCe]
  have hl3 := hE3.1
  have hl3b := hks3.lt
  refine S_as rfl ?_
  refine S_nil (hK3 _ _ (V_keep [0, 1, 6, 7] (by simp only [proj, lk, reduceIte, Nat.reduceEqDiff]; rfl) ?_)); clear hK3
  refine V_sr T.mix (by kernel_rfl) (fun K4 hK4 => ?_)
  refine S_call T.hb10 rfl ?_
  refine FC.mono (modelside_spec h3) ?_
  rintro v' h4 ⟨KC, M, rfl, km4, hKn, hMn, hE4⟩
  have hl4 := hE4.1
  refine S_as rfl ?_
  refine S_nil (hK4 _ _ (V_keep [0, 1, 6, 7, 8] (by simp only [proj, lk, reduceIte, Nat.reduceEqDiff]; rfl) ?_)); clear hK4
  refine V_sr T.mix (by kernel_rfl) (fun K5 hK5 => ?_)
  refine S_bld rfl (T.bld37) ?_
  refine S_boxA rfl ?_
  generalize hh : Array.push h4 _ = h5
  have hD5 : B h5 h4.size #[.string ⟨#[]⟩, .string ⟨#[]⟩] 37 := by rw [← hh]; exact B.new _ _ _
  have hEh5 : Ext (fun _ => False) h4 h5 := by rw [← hh]; exact Ext.push _ _ _
  have hsh5 : h5.size = h4.size + 1 := by rw [← hh]; simp
  clear hh
  generalize hDe : h4.size = D at hD5
  try rw [hDe]
  have hQ5 : Ext (fun _ => False) h h5 := ((((hE0.trans hEh1).step hEh2 (fun z hz e => by omega)).trans hE3).trans hE4).trans hEh5
  have hQ25 := (hE3.trans hE4).trans hEh5
  have hP5 := (((hP0.ext hEh1 (fun f => f) (by simp [blkA])).ext hEh2 (fun e => by omega) (by simp [blkA]))).ext hQ25 (fun f => f) (by simp [blkA])
  have hBw := hB2.ext hQ25 (fun f => f)
  have hB2l := hB2.lt
  have hKc := km4.k.lt
  have hMc : M < h4.size := by obtain ⟨x, y, z⟩ := km4.m; exact z.lt
  have w0 : WL h.size h5 C X none 0 (fun _ => none) KC M D ⟨#[]⟩ ⟨#[]⟩ := ⟨⟨(hks3.ext hE4 (fun f => f)).ext hEh5 (fun f => f), hP5, by omega, by simp [blkA]⟩, km4.ext hEh5 (fun f => f) (fun f => f), hD5, by decide, by decide, fun z e => by rcases e with e | e | e; (omega); (omega); (simp [blkA] at e), by omega, fun z e => by rcases e with (e | e | e) | e | e | e; (omega); (omega); (simp [blkA] at e); (omega); (omega); (omega), by omega⟩
  have hBn0 : ∀ z, FB C X none z ∨ z = M ∨ z = D → z ≠ BB := fun z e => by rcases e with (e | e | e) | e | e; (omega); (omega); (simp [blkA] at e); (omega); (omega)
  have hEs : Ext (fun c => h.size ≤ c) h h5 := hQ5.mono fun _ f => f.elim
  refine S_as rfl ?_
  refine S_nil (hK5 _ _ (V_keep [0, 1, 6, 7, 8, 9] (by simp only [proj, lk, reduceIte, Nat.reduceEqDiff]; rfl) ?_)); clear hK5
  refine V_seqJ (fun l h' => ∃ (h6 : Heap), (WL h.size h6 C X none 0 (fun _ => none) KC M D ⟨#[]⟩ ⟨#[]⟩) ∧ (Ext (fun c => h.size ≤ c) h h6) ∧ (B h6 BB #[.pointer (some ⟨X, 0, none⟩)] 29) ∧ l = [(0, .slice sa n cap), (1, .bool (decide (q = true))), (6, .pointer (some ⟨BB, 0, none⟩)), (7, .pointer (some ⟨C, 0, none⟩)), (8, .pointer (some ⟨KC, 0, none⟩)), (9, .pointer (some ⟨D, 0, none⟩))] ∧ h6 = h') ?_ ?_
  · skip
    refine V_sr T.mix (by kernel_rfl) (fun K7 hK7 => ?_)
    refine S_mv rfl ?_
    refine S_not rfl ?_
    refine S_nil (hK7 _ _ (V_keep [0, 1, 6, 7, 8, 9, 19] (by simp only [proj, lk, reduceIte, Nat.reduceEqDiff]; rfl) ?_)); clear hK7
    refine V_condp rfl (fun c140 => ?_) (fun c140 => ?_)
    · skip
      refine V_sr T.mix (by kernel_rfl) (fun K8 hK8 => ?_)
      refine S_mv rfl ?_
      refine S_call T.hb11 rfl ?_
      refine FC.mono (clean_spec h5 C X _ w0.r.ks) ?_
      rintro v' h' ⟨rfl, rfl⟩
      refine S_notb rfl ?_
      refine S_nil (hK8 _ _ (V_keep [0, 1, 6, 7, 8, 9, 22] (by simp only [proj, lk, reduceIte, Nat.reduceEqDiff]; rfl) ?_)); clear hK8
      refine V_condb rfl (fun c141 => ?_) (fun c141 => ?_)
      · skip
        cases c141
      · skip
        refine V_skipk [0, 1, 6, 7, 8, 9] (by simp only [proj, lk, reduceIte, Nat.reduceEqDiff]; rfl) ?_
        exact ⟨h5, w0, hEs, hBw, rfl, rfl⟩
    · skip
      refine V_skipk [0, 1, 6, 7, 8, 9] (by simp only [proj, lk, reduceIte, Nat.reduceEqDiff]; rfl) ?_
      exact ⟨h5, w0, hEs, hBw, rfl, rfl⟩
  rintro l h' ⟨h6, w6, hE6, hB6, rfl, rfl⟩
  refine V_seq (fun K9 hK9 => ?_)
  refine V_sr T.mix (by kernel_rfl) (fun K10 hK10 => ?_)
  refine S_as rfl ?_
  refine S_nil (hK10 _ _ (V_keep [0, 1, 6, 7, 8, 9, 10] (by simp only [proj, lk, reduceIte, Nat.reduceEqDiff]; rfl) ?_)); clear hK10
  refine V_block ?_
  refine V_loop (fun m l h' => ∃ (i : Nat) (hk : Heap) (ak : Option Addr) (ck : Nat) (slk : Nat → Option (List Int)) (q1 q2 : ByteArray), (i ≤ n) ∧ (i ≤ 4398046511104) ∧ (WL h.size hk C X ak ck slk KC M D q1 q2) ∧ (Ext (fun c => h.size ≤ c) h hk) ∧ (B hk BB #[.pointer (some ⟨X, 0, none⟩)] 29) ∧ (∀ z, FB C X ak z ∨ z = M ∨ z = D → z ≠ BB) ∧ m = n - i ∧ l = [(0, .slice sa n cap), (1, .bool (decide (q = true))), (6, .pointer (some ⟨BB, 0, none⟩)), (7, .pointer (some ⟨C, 0, none⟩)), (8, .pointer (some ⟨KC, 0, none⟩)), (9, .pointer (some ⟨D, 0, none⟩)), (10, .int .i64 i)] ∧ hk = h') _ ⟨0, h6, none, 0, _, ⟨#[]⟩, ⟨#[]⟩, by omega, by omega, w6, hE6, hB6, hBn0, rfl, rfl, rfl⟩ ?_
  rintro m l h' ⟨i, hk, ak, ck, slk, q1, q2, hi, hi2, w, hE, hBk, hBn, rfl, rfl, rfl⟩ K11 hK11
  refine V_seq (fun K12 hK12 => ?_)
  refine V_sr T.mix (by kernel_rfl) (fun K13 hK13 => ?_)
  refine S_cut (K' := fun l h' => ∃ b : Bool, (b = true ↔ (i < n ∧ i < 4398046511104)) ∧ l = [(0, .slice sa n cap), (1, .bool (decide (q = true))), (6, .pointer (some ⟨BB, 0, none⟩)), (7, .pointer (some ⟨C, 0, none⟩)), (8, .pointer (some ⟨KC, 0, none⟩)), (9, .pointer (some ⟨D, 0, none⟩)), (10, .int .i64 i), (30, .bool b)] ∧ hk = h') ?_ ?_
  · skip
    refine S_mv rfl ?_
    refine S_mv rfl ?_
    refine S_lenl T.el22 rfl ?_
    refine S_bin rfl rfl rfl ?_
    refine S_mv rfl ?_
    refine S_dec (fun g145 => ?_) (fun g145 => ?_)
    · skip
      refine S_gt rfl ?_
      refine S_mv rfl ?_
      refine S_gt rfl ?_
      refine S_bin rfl rfl rfl ?_
      refine S_pt rfl rfl ?_
      exact S_nilk [0, 1, 6, 7, 8, 9, 10, 30] (by simp only [proj, lk, reduceIte, Nat.reduceEqDiff]; rfl) ⟨_, (by first | (simp [*]; done) | (simp; omega)), rfl, rfl⟩
    · skip
      refine S_gf rfl ?_
      refine S_gf rfl ?_
      refine S_pf rfl rfl ?_
      exact S_nilk [0, 1, 6, 7, 8, 9, 10, 30] (by simp only [proj, lk, reduceIte, Nat.reduceEqDiff]; rfl) ⟨_, (by first | (simp [*]; done) | (simp; omega)), rfl, rfl⟩
  rintro l h' ⟨b, hb145, rfl, rfl⟩
  refine hK13 _ _ ?_; clear hK13
  refine V_condb rfl (fun c145 => ?_) (fun c145 => ?_)
  · replace c145 := hb145.1 c145
    refine V_skipk [0, 1, 6, 7, 8, 9, 10] (by simp only [proj, lk, reduceIte, Nat.reduceEqDiff]; rfl) ?_
    refine hK12 _ _ ?_; clear hK12
    refine V_seq (fun K15 hK15 => ?_)
    refine V_block ?_
    refine V_seq (fun K16 hK16 => ?_)
    refine V_sr T.mix (by kernel_rfl) (fun K17 hK17 => ?_)
    refine S_ldn T.ag29 rfl ((hBk).all rfl) ?_
    refine S_mv rfl ?_
    refine S_mv rfl ?_
    refine S_mv rfl ?_
    refine S_mv rfl ?_
    refine S_mv rfl ?_
    obtain ⟨sb, so, rfl, hlt, k, oa, ob, oc, os, ot, hc⟩ := (hs.ext (Nat.le_refl _) hE) i (by exact c145.1)
    refine S_ix T.el22 rfl rfl (by omega) (by omega) ?_
    refine S_ldn T.ag41 rfl (by simpa using hc) ?_
    refine S_call T.hb12 rfl ?_
    refine FC.mono (play_spec h.size hk C X ak ck slk KC M D q1 q2 w k oa ob oc os ot) ?_
    rintro v' h9 ⟨a9, c9, sl9, u1, u2, rfl, w9, hE9, hn9⟩
    have hB9 := hBk.ext hE9 (fun e => hBn _ e rfl)
    have hEt : Ext (fun c => h.size ≤ c) h h9 := hE.trans (hE9.mono (fun z e => w.lo z (by rcases e with e | e | e; (exact .inl e); (exact .inr (.inr (.inl e))); (exact .inr (.inr (.inr e))))))
    have hBn9 : ∀ z, FB C X a9 z ∨ z = M ∨ z = D → z ≠ BB := fun z e => by rcases e with e | e; (rcases hn9 z e with y | y; (exact hBn z (.inl y)); (have h8 := hBk.lt; omega)); (exact hBn z (.inr e))
    refine S_notb rfl ?_
    refine S_nil (hK17 _ _ (V_keep [0, 1, 6, 7, 8, 9, 10, 42] (by simp only [proj, lk, reduceIte, Nat.reduceEqDiff]; rfl) ?_)); clear hK17
    refine V_condb rfl (fun c146 => ?_) (fun c146 => ?_)
    · skip
      cases c146
    · skip
      refine V_skipk [0, 1, 6, 7, 8, 9, 10] (by simp only [proj, lk, reduceIte, Nat.reduceEqDiff]; rfl) ?_
      refine hK16 _ _ ?_; clear hK16
      refine V_sr T.mix (by kernel_rfl) (fun K18 hK18 => ?_)
      refine S_mv rfl ?_
      refine S_not rfl ?_
      refine S_nil (hK18 _ _ (V_keep [0, 1, 6, 7, 8, 9, 10, 46] (by simp only [proj, lk, reduceIte, Nat.reduceEqDiff]; rfl) ?_)); clear hK18
      refine V_condp rfl (fun c149 => ?_) (fun c149 => ?_)
      · skip
        refine V_sr T.mix (by kernel_rfl) (fun K19 hK19 => ?_)
        refine S_mv rfl ?_
        refine S_call T.hb11 rfl ?_
        refine FC.mono (clean_spec h9 C X _ w9.r.ks) ?_
        rintro v' h' ⟨rfl, rfl⟩
        refine S_notb rfl ?_
        refine S_nil (hK19 _ _ (V_keep [0, 1, 6, 7, 8, 9, 10, 49] (by simp only [proj, lk, reduceIte, Nat.reduceEqDiff]; rfl) ?_)); clear hK19
        refine V_condb rfl (fun c150 => ?_) (fun c150 => ?_)
        · skip
          cases c150
        · skip
          refine V_skipk [0, 1, 6, 7, 8, 9, 10] (by simp only [proj, lk, reduceIte, Nat.reduceEqDiff]; rfl) ?_
          refine hK15 _ _ ?_; clear hK15
          refine V_reg T.mix (by kernel_rfl) ?_
          refine S_mv rfl ?_
          first | refine S_add rfl rfl (by omega) (by omega) ?_ | refine S_bin rfl rfl rfl ?_
          refine S_as rfl ?_
          refine S_nilk [0, 1, 6, 7, 8, 9, 10] (by simp only [proj, lk, reduceIte, Nat.reduceEqDiff]; rfl) ?_
          exact hK11 _ _ ⟨_, by omega, i + 1, h9, a9, c9, sl9, u1, u2, by omega, by omega, w9, hEt, hB9, hBn9, rfl, rfl, rfl⟩
      · skip
        refine V_skipk [0, 1, 6, 7, 8, 9, 10] (by simp only [proj, lk, reduceIte, Nat.reduceEqDiff]; rfl) ?_
        refine hK15 _ _ ?_; clear hK15
        refine V_reg T.mix (by kernel_rfl) ?_
        refine S_mv rfl ?_
        first | refine S_add rfl rfl (by omega) (by omega) ?_ | refine S_bin rfl rfl rfl ?_
        refine S_as rfl ?_
        refine S_nilk [0, 1, 6, 7, 8, 9, 10] (by simp only [proj, lk, reduceIte, Nat.reduceEqDiff]; rfl) ?_
        exact hK11 _ _ ⟨_, by omega, i + 1, h9, a9, c9, sl9, u1, u2, by omega, by omega, w9, hEt, hB9, hBn9, rfl, rfl, rfl⟩
  · replace c145 : ¬ _ := fun hp => Bool.false_ne_true (c145.symm.trans (hb145.2 hp))
    refine V_exitk [0] rfl (by simp only [proj, lk, reduceIte, Nat.reduceEqDiff]; rfl) ?_
    refine hK9 _ _ ?_; clear hK9
    refine V_seq (fun K20 hK20 => ?_)
    refine V_sr T.mix (by kernel_rfl) (fun K21 hK21 => ?_)
    refine S_mv rfl ?_
    refine S_lenl T.el22 rfl ?_
    refine S_bin rfl rfl rfl ?_
    refine S_nil (hK21 _ _ (V_keep [0, 54] (by simp only [proj, lk, reduceIte, Nat.reduceEqDiff]; rfl) ?_)); clear hK21
    refine V_condp rfl (fun c155 => ?_) (fun c155 => ?_)
    · skip
      refine V_sr T.mix (by kernel_rfl) (fun K22 hK22 => ?_)
      refine S_mv rfl ?_
      refine S_lenl T.el22 rfl ?_
      refine S_as rfl ?_
      refine S_as rfl ?_
      refine S_nil (hK22 _ _ (V_keep [4, 5] (by simp only [proj, lk, reduceIte, Nat.reduceEqDiff]; rfl) ?_)); clear hK22
      refine V_ret ?_
      refine hR _ _ (ret2 rfl rfl rfl ?_)
      exact ⟨⟨_, rfl⟩, hE⟩
    · skip
      refine V_skipk [] (by simp only [proj, lk, reduceIte, Nat.reduceEqDiff]; rfl) ?_
      refine hK20 _ _ ?_; clear hK20
      refine V_sr T.mix (by kernel_rfl) (fun K23 hK23 => ?_)
      refine S_as rfl ?_
      refine S_as rfl ?_
      refine S_nil (hK23 _ _ (V_keep [4, 5] (by simp only [proj, lk, reduceIte, Nat.reduceEqDiff]; rfl) ?_)); clear hK23
      refine V_ret ?_
      refine hR _ _ (ret2 rfl rfl rfl ?_)
      exact ⟨⟨_, rfl⟩, hE⟩
set_option maxHeartbeats 400000 in
theorem rut_spec (h : Heap) (sa : Option Addr) (n cap : Nat) (hs : Scr h.size h sa n) (hn : n ≤ 9223372036854775807) :
    FC Try.prog 5 (#[.slice sa n cap] : Array Value) h fun v h' => v = .int .i64 (-1) ∧ Ext (fun b => h.size ≤ b) h h' := by
  refine FC_of [(0, .slice sa n cap)] Try.func5 rfl Try.ntmps5 (by simp) rfl (fun R hR => ?_)
  refine V_sr T.mix (by kernel_rfl) (fun K1 hK1 => ?_)
  refine S_as rfl ?_
  refine S_nil (hK1 _ _ (V_keep [0] (by simp only [proj, lk, reduceIte, Nat.reduceEqDiff]; rfl) ?_)); clear hK1
  refine V_sr T.mix (by kernel_rfl) (fun K2 hK2 => ?_)
  refine S_mv rfl ?_
  refine S_call T.hb7 rfl ?_
  refine FC.mono (walk_spec h sa n cap false hs hn) ?_
  rintro v h2 ⟨⟨j, rfl⟩, hE⟩
  refine S_mv rfl ?_
  refine S_ex rfl rfl ?_
  refine S_ex rfl rfl ?_
  refine S_as rfl ?_
  refine S_as rfl ?_
  refine S_nil (hK2 _ _ (V_keep [3] (by simp only [proj, lk, reduceIte, Nat.reduceEqDiff]; rfl) ?_)); clear hK2
  refine V_sr T.mix (by kernel_rfl) (fun K3 hK3 => ?_)
  refine S_mv rfl ?_
  refine S_as rfl ?_
  refine S_nil (hK3 _ _ (V_keep [2] (by simp only [proj, lk, reduceIte, Nat.reduceEqDiff]; rfl) ?_)); clear hK3
  refine V_ret ?_
  refine hR _ _ (ret1 rfl rfl ?_)
  exact ⟨rfl, hE⟩
set_option maxHeartbeats 400000 in
theorem rqut_spec (h : Heap) (sa : Option Addr) (n cap : Nat) (hs : Scr h.size h sa n) (hn : n ≤ 9223372036854775807) :
    FC Try.prog 6 (#[.slice sa n cap] : Array Value) h fun v h' => v = .int .i64 (-1) ∧ Ext (fun b => h.size ≤ b) h h' := by
  refine FC_of [(0, .slice sa n cap)] Try.func6 rfl Try.ntmps6 (by simp) rfl (fun R hR => ?_)
  refine V_sr T.mix (by kernel_rfl) (fun K1 hK1 => ?_)
  refine S_as rfl ?_
  refine S_nil (hK1 _ _ (V_keep [0] (by simp only [proj, lk, reduceIte, Nat.reduceEqDiff]; rfl) ?_)); clear hK1
  refine V_sr T.mix (by kernel_rfl) (fun K2 hK2 => ?_)
  refine S_mv rfl ?_
  refine S_call T.hb7 rfl ?_
  refine FC.mono (walk_spec h sa n cap true hs hn) ?_
  rintro v h2 ⟨⟨j, rfl⟩, hE⟩
  refine S_mv rfl ?_
  refine S_ex rfl rfl ?_
  refine S_ex rfl rfl ?_
  refine S_as rfl ?_
  refine S_as rfl ?_
  refine S_nil (hK2 _ _ (V_keep [3] (by simp only [proj, lk, reduceIte, Nat.reduceEqDiff]; rfl) ?_)); clear hK2
  refine V_sr T.mix (by kernel_rfl) (fun K3 hK3 => ?_)
  refine S_mv rfl ?_
  refine S_as rfl ?_
  refine S_nil (hK3 _ _ (V_keep [2] (by simp only [proj, lk, reduceIte, Nat.reduceEqDiff]; rfl) ?_)); clear hK3
  refine V_ret ?_
  refine hR _ _ (ret1 rfl rfl ?_)
  exact ⟨rfl, hE⟩
set_option maxHeartbeats 400000 in
theorem ref_spec (h : Heap) (sa : Option Addr) (n cap : Nat) (hs : Scr h.size h sa n) (hn : n ≤ 9223372036854775807) :
    FC Try.prog 3 (#[.slice sa n cap] : Array Value) h fun v h' => v = .bool true ∧ Ext (fun b => h.size ≤ b) h h' := by
  refine FC_of [(0, .slice sa n cap)] Try.func3 rfl Try.ntmps3 (by simp) rfl (fun R hR => ?_)
  refine V_sr T.mix (by kernel_rfl) (fun K1 hK1 => ?_)
  refine S_as rfl ?_
  refine S_nil (hK1 _ _ (V_keep [0] (by simp only [proj, lk, reduceIte, Nat.reduceEqDiff]; rfl) ?_)); clear hK1
  refine V_sr T.mix (by kernel_rfl) (fun K2 hK2 => ?_)
  refine S_mv rfl ?_
  refine S_call T.hb5 rfl ?_
  refine FC.mono (rut_spec h sa n cap hs hn) ?_
  rintro v h2 ⟨rfl, hE⟩
  refine S_bin rfl rfl rfl ?_
  refine S_as rfl ?_
  refine S_nil (hK2 _ _ (V_keep [2] (by simp only [proj, lk, reduceIte, Nat.reduceEqDiff]; rfl) ?_)); clear hK2
  refine V_ret ?_
  refine hR _ _ (ret1 rfl rfl ?_)
  exact ⟨rfl, hE⟩
set_option maxHeartbeats 400000 in
theorem refq_spec (h : Heap) (sa : Option Addr) (n cap : Nat) (hs : Scr h.size h sa n) (hn : n ≤ 9223372036854775807) :
    FC Try.prog 4 (#[.slice sa n cap] : Array Value) h fun v h' => v = .bool true ∧ Ext (fun b => h.size ≤ b) h h' := by
  refine FC_of [(0, .slice sa n cap)] Try.func4 rfl Try.ntmps4 (by simp) rfl (fun R hR => ?_)
  refine V_sr T.mix (by kernel_rfl) (fun K1 hK1 => ?_)
  refine S_as rfl ?_
  refine S_nil (hK1 _ _ (V_keep [0] (by simp only [proj, lk, reduceIte, Nat.reduceEqDiff]; rfl) ?_)); clear hK1
  refine V_sr T.mix (by kernel_rfl) (fun K2 hK2 => ?_)
  refine S_mv rfl ?_
  refine S_call T.hb6 rfl ?_
  refine FC.mono (rqut_spec h sa n cap hs hn) ?_
  rintro v h2 ⟨rfl, hE⟩
  refine S_bin rfl rfl rfl ?_
  refine S_as rfl ?_
  refine S_nil (hK2 _ _ (V_keep [2] (by simp only [proj, lk, reduceIte, Nat.reduceEqDiff]; rfl) ?_)); clear hK2
  refine V_ret ?_
  refine hR _ _ (ret1 rfl rfl ?_)
  exact ⟨rfl, hE⟩
end Go.Proofs.Qxb6500398a
