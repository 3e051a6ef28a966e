import Derived.Test.Qxb6500404aGreatSe
import Derived.Test.Qxb6500404aGreatRg
set_option linter.unusedVariables false
set_option linter.unusedSimpArgs false
namespace Go.Proofs.Qxb6500404aGreat
open Go.Eng Go.Bits Go.Blk HufW

theorem puts_all {h : Heap} {b : Nat} {cs cs' : Array Value} {t : TypeId} (hb : B h b cs t) (hs : cs'.size = cs.size) : B (putsH h b 0 cs'.toList) b cs' t := by
  obtain ⟨c2, e2, e3, e4, e5, e6, e7⟩ := putsH_eq cs'.toList 0 h cs hb (by simp; omega)
  have : c2 = cs' := by
    apply Array.ext_getElem?
    intro j
    by_cases hj : j < cs'.size
    · have := e4 j (by simpa using hj)
      rw [Nat.zero_add] at this
      rw [this]; simp
    · rw [Array.getElem?_eq_none (by omega), Array.getElem?_eq_none (by omega)]
  rw [this] at e2; exact e2
section fx
variable {raw ch : ByteArray} {r : SR} {out o : List Int} {s : TS} {ua ub : HC} {e : Nat} {l : Bool}
theorem FnE.nx (f : FnE (raw ++ ch) r o out.length s ua ub e) (hz : raw.size + ch.size ≤ 512) : nxR raw ch 0 = raw ++ ch ∧ nxO raw ch 0 out = o ∧ nxT raw ch 0 l = stS e l ∧ stpV raw ch 0 l out.length = #[.string (mkS (o.drop out.length)), .int .i64 ((stS e l : Nat) : Int), .int .i64 ((if stS e l = 2 then e else 0 : Nat) : Int), .int .i64 ((if stS e l = 2 then (ruF (raw ++ ch)).pl else 0 : Nat) : Int)] := by
  refine ⟨?_, ?_, ?_, ?_⟩
  · unfold nxR; rw [if_pos ⟨rfl, hz⟩]
  · unfold nxO; rw [if_pos ⟨rfl, hz⟩, f.o]
  · unfold nxT; rw [if_neg (by omega), if_neg (by omega), f.er]
  · unfold stpV; rw [if_neg (by omega), if_neg (by omega), f.o, f.er]
theorem FnE.pz (f : FnE (raw ++ ch) r o out.length s ua ub e) (h : (ruF (raw ++ ch)).e = 0) : (ruF (raw ++ ch)).pl = 0 := by
  have h1 := f.p
  rw [f.er] at h
  rw [if_pos h] at h1
  exact h1
theorem FnE.done (f : FnE (raw ++ ch) r o out.length s ua ub e) (hz : raw.size + ch.size ≤ 512) (he : e = 0) (hl : l = true) : stpV raw ch 0 l out.length = #[.string (mkS (o.drop out.length)), .int .i64 1, .int .i64 0, .int .i64 0] ∧ RSt (nxR raw ch 0) { r with ph := 9 } (nxO raw ch 0 out) s ua ub (nxT raw ch 0 l) := by
  obtain ⟨h1, h2, h3, h4⟩ := f.nx (l := l) hz
  have hs : stS e l = 1 := by unfold stS; rw [if_pos ⟨he, hl⟩]
  rw [h1, h2, h3, h4, hs]
  exact ⟨rfl, .inr (.inl ⟨rfl, rfl, f.k he, _, f.w.ph 9⟩)⟩
theorem FnE.more (f : FnE (raw ++ ch) r o out.length s ua ub e) (hz : raw.size + ch.size ≤ 512) (he : e = 0 ∨ e = 4) (hl : l = false) : stpV raw ch 0 l out.length = #[.string (mkS (o.drop out.length)), .int .i64 0, .int .i64 0, .int .i64 0] ∧ RSt (nxR raw ch 0) r (nxO raw ch 0 out) s ua ub (nxT raw ch 0 l) := by
  obtain ⟨h1, h2, h3, h4⟩ := f.nx (l := l) hz
  have hs : stS e l = 0 := by unfold stS; rw [if_neg (by rw [hl]; simp), if_pos ⟨hl, he⟩]
  rw [h1, h2, h3, h4, hs]
  obtain ⟨fa, fb, m⟩ := f.m he
  exact ⟨rfl, .inl ⟨rfl, _, fa, fb, m⟩⟩
theorem FnE.fail (f : FnE (raw ++ ch) r o out.length s ua ub e) (hz : raw.size + ch.size ≤ 512) (he : e ≠ 0) (hl : l = true ∨ e ≠ 4) : stpV raw ch 0 l out.length = #[.string (mkS (o.drop out.length)), .int .i64 2, .int .i64 ((e : Nat) : Int), .int .i64 ((r.at_ : Nat) : Int)] ∧ RSt (nxR raw ch 0) { r with ph := 10 } (nxO raw ch 0 out) s ua ub (nxT raw ch 0 l) := by
  obtain ⟨h1, h2, h3, h4⟩ := f.nx (l := l) hz
  have hs : stS e l = 2 := by
    unfold stS
    rw [if_neg (fun z => he z.1), if_neg (fun z => by rcases hl with q | q; (rw [q] at z; cases z.1); (omega))]
  have hp := f.p
  rw [if_neg he] at hp
  rw [h1, h2, h3, h4, hs, hp]
  exact ⟨rfl, .inr (.inr ⟨rfl, rfl, _, f.w.ph 10⟩)⟩
end fx
theorem st_ref {raw ch : ByteArray} {st : Nat} {l : Bool} {n : Nat} {out : List Int} (h : st ≠ 0) : stpV raw ch st l n = #[.string ⟨#[]⟩, .int .i64 2, .int .i64 12, .int .i64 0] ∧ nxR raw ch st = raw ∧ nxO raw ch st out = out ∧ nxT raw ch st l = st := by
  refine ⟨?_, ?_, ?_, ?_⟩
  · unfold stpV; rw [if_pos h]
  · unfold nxR; rw [if_neg (fun z => h z.1)]
  · unfold nxO; rw [if_neg (fun z => h z.1)]
  · unfold nxT; rw [if_pos h]
theorem st_lng {raw ch : ByteArray} {l : Bool} {n : Nat} {out : List Int} (h : 512 < raw.size + ch.size) : stpV raw ch 0 l n = #[.string ⟨#[]⟩, .int .i64 2, .int .i64 1, .int .i64 0] ∧ nxR raw ch 0 = raw ∧ nxO raw ch 0 out = out ∧ nxT raw ch 0 l = 2 := by
  refine ⟨?_, ?_, ?_, ?_⟩
  · unfold stpV; rw [if_neg (by omega), if_pos h]
  · unfold nxR; rw [if_neg (by omega)]
  · unfold nxO; rw [if_neg (by omega)]
  · unfold nxT; rw [if_neg (by omega), if_pos h]
set_option maxHeartbeats 6400000 in
theorem feed_spec (h : Heap) (W : SA) (r : SR) (s : TS) (ua ub : HC) (sw : SW h W r s ua ub) (raw : ByteArray) (out : List Int) (st : Nat) (q : RSt raw r out s ua ub st) (ch : ByteArray) (lst : Bool) :
    FC Tryz.prog 82 (#[.pointer (some ⟨W.D, 0, none⟩), .string ch, .bool lst] : Array Value) h fun rv h' => ∃ r' s' va vb, rv = .agg (stpV raw ch st lst out.length) ∧ SW h' W r' s' va vb ∧ RSt (nxR raw ch st) r' (nxO raw ch st out) s' va vb (nxT raw ch st lst) ∧ (∃ x, nxO raw ch st out = out ++ x) ∧ (st = 0 → raw.size + ch.size ≤ 512 → (ruF (raw ++ ch)).e = 0 → (ruF (raw ++ ch)).pl = 0) ∧ Ext (WTs W) h h' := by
  obtain ⟨sent, w_⟩ := q.w
  have hph := q.ph
  have hfed := w_.fed
  have hz512 := w_.z
  refine FC_of [(0, .pointer (some ⟨W.D, 0, none⟩)), (1, .string ch), (2, .bool lst)] Tryz.func82 rfl Tryz.ntmps82 (by simp) rfl (fun R hR => ?_)
  refine V_sr T.mix (by kernel_rfl) (fun K1 hK1 => ?_)
  refine S_allocA T.z155 ?_
  generalize hh : Array.push h _ = hA
  have hRA : B hA h.size #[.string ⟨#[]⟩, .int .i64 0, .int .i64 0, .int .i64 0] 155 := by rw [← hh]; exact B.new _ _ _
  have hEhA : Ext (fun _ => False) h hA := by rw [← hh]; exact Ext.push _ _ _
  clear hh
  have swA := sw.new hEhA
  have hXA : Ext (WTs W) h hA := hEhA.mono (fun _ f => f.elim)
  try clear q0 q1 q2 q3 q4 q5 q6 q7 q8 q9 q10 q11 q12 q13 q14 q15 q16 q17 q18 q19 q20 dok
  obtain ⟨q0, q1, q2, q3, q4, q5, q6, q7, q8, q9, q10, q11, q12, q13, q14, q15, q16, q17, q18, q19, q20⟩ := dq (swA.x)
  have dok := dok_ (swA.x)
  try simp only [] at q0 q1 q2 q3 q4 q5 q6 q7 q8 q9 q10 q11 q12 q13 q14 q15 q16 q17 q18 q19 q20
  try clear hRok
  have hRok : ∀ j, j < 4 → okPut hA ⟨h.size, j, none⟩ = true := fun j hj => hRA.ok (by simpa using hj)
  refine S_nil (hK1 _ _ (V_keep [0, 1, 2, 6] (by simp only [proj, lk, reduceIte, Nat.reduceEqDiff]; rfl) ?_)); clear hK1
  refine V_seq (fun K2 hK2 => ?_)
  refine V_sr T.mix (by kernel_rfl) (fun K3 hK3 => ?_)
  refine S_mv rfl ?_
  refine S_nc rfl ?_
  first | refine S_fa0 T.f77_4 rfl ?_ | refine S_fa T.f77_4 rfl ?_
  refine S_ldK T.ag3 rfl (fun K' hK' => ?_)
  simp (disch := omega) only [q0, q1, q2, q3, q4, q5, q6, q7, q8, q9, q10, q11, q12, q13, q14, q15, q16, q17, q18, q19, q20, oP_some, Nat.add_zero]
  refine hK' _ ?_; clear hK' K'
  refine S_bin rfl rfl rfl ?_
  refine S_nil (hK3 _ _ (V_keep [0, 1, 2, 6, 14] (by simp only [proj, lk, reduceIte, Nat.reduceEqDiff]; rfl) ?_)); clear hK3
  refine V_condp rfl (fun c78 => ?_) (fun c78 => ?_)
  · skip
    refine V_sr T.mix (by kernel_rfl) (fun K4 hK4 => ?_)
    refine S_bld rfl (T.bld155_1_2 _ _) ?_
    refine S_stl T.sz155 rfl rfl rfl rfl (fun j hj => by simp (disch := omega) only [hRok]) ?_
    generalize hh : putsH _ _ _ _ = h9
    have hR9 : B h9 (h.size) #[.string ⟨#[]⟩, .int .i64 2, .int .i64 12, .int .i64 0] 155 := by rw [← hh]; exact puts_all (hRA) (cs' := #[.string ⟨#[]⟩, .int .i64 2, .int .i64 12, .int .i64 0]) rfl
    have hEh9 : Ext (fun k => k = h.size) hA h9 := by rw [← hh]; exact Ext.puts (S := fun k => k = h.size) rfl _ _ _
    clear hh
    refine S_nil (hK4 _ _ (V_keep [6] (by simp only [proj, lk, reduceIte, Nat.reduceEqDiff]; rfl) ?_)); clear hK4
    refine V_ret ?_
    refine hR _ _ (retc1 rfl rfl T.ag155 hR9 (by rfl) ?_)
    have hst : st ≠ 0 := by omega
    obtain ⟨h1, h2, h3, h4⟩ := st_ref (raw := raw) (ch := ch) (l := lst) (n := out.length) (out := out) hst
    rw [h1, h2, h3, h4]
    exact ⟨_, _, _, _, rfl, swA.ext hEh9 (fun z w e => by have h9 := sw.lt w; omega), q, ⟨[], (List.append_nil _).symm⟩, fun z => absurd z hst, hXA.step hEh9 (fun z hz e => by omega)⟩
  · skip
    obtain ⟨hst, sent0, fa, fb, m⟩ := q.live (by omega)
    subst hst
    have hs0 : s = tpS raw ch 0 s.p := by rw [tp_0]; have h1 := w_.N; have h2 := w_.n; cases s; simp only [] at h1 h2 ⊢; rw [h1, h2]
    refine V_skipk [0, 1, 2, 6] (by simp only [proj, lk, reduceIte, Nat.reduceEqDiff]; rfl) ?_
    refine hK2 _ _ ?_; clear hK2
    refine V_seq (fun K5 hK5 => ?_)
    refine V_sr T.mix (by kernel_rfl) (fun K6 hK6 => ?_)
    refine S_mv rfl ?_
    refine S_lens T.kd9 rfl ?_
    refine S_mv rfl ?_
    refine S_nc rfl ?_
    first | refine S_fa0 T.f77_20 rfl ?_ | refine S_fa T.f77_20 rfl ?_
    refine S_ldK T.ag3 rfl (fun K' hK' => ?_)
    simp (disch := omega) only [q0, q1, q2, q3, q4, q5, q6, q7, q8, q9, q10, q11, q12, q13, q14, q15, q16, q17, q18, q19, q20, oP_some, Nat.add_zero]
    refine hK' _ ?_; clear hK' K'
    refine S_subN (512 - r.fed) rfl rfl (by omega) (by omega) ?_
    refine S_bin rfl rfl rfl ?_
    refine S_nil (hK6 _ _ (V_keep [0, 1, 2, 6, 23] (by simp only [proj, lk, reduceIte, Nat.reduceEqDiff]; rfl) ?_)); clear hK6
    refine V_condp rfl (fun c81 => ?_) (fun c81 => ?_)
    · skip
      refine V_sr T.mix (by kernel_rfl) (fun K7 hK7 => ?_)
      refine S_mv rfl ?_
      refine S_nc rfl ?_
      first | refine S_fa0 T.f77_4 rfl ?_ | refine S_fa T.f77_4 rfl ?_
      refine S_st T.sz3 rfl rfl rfl rfl (by simp (disch := omega) only [dok]) ?_
      generalize hh : putH _ _ _ = h1
      have sw1 := swA.sx (h' := h1) (r' := { r with ph := 10 }) (by rw [← hh]; exact (swA.x.put 4 _).cong (by simp [dcs])) (by rw [← hh]; exact Ext.put _ _ rfl) rfl rfl rfl
      have hEh1 : Ext (WTs W) hA h1 := by rw [← hh]; exact Ext.put _ _ wd0
      clear hh
      try clear q0 q1 q2 q3 q4 q5 q6 q7 q8 q9 q10 q11 q12 q13 q14 q15 q16 q17 q18 q19 q20 dok
      obtain ⟨q0, q1, q2, q3, q4, q5, q6, q7, q8, q9, q10, q11, q12, q13, q14, q15, q16, q17, q18, q19, q20⟩ := dq (sw1.x)
      have dok := dok_ (sw1.x)
      try simp only [] at q0 q1 q2 q3 q4 q5 q6 q7 q8 q9 q10 q11 q12 q13 q14 q15 q16 q17 q18 q19 q20
      have hR1 := (hRA).ext hEh1 (fun w => by have h9 := sw.lt w; omega)
      try clear hRok
      have hRok : ∀ j, j < 4 → okPut h1 ⟨h.size, j, none⟩ = true := fun j hj => hR1.ok (by simpa using hj)
      refine S_nil (hK7 _ _ (V_keep [6] (by simp only [proj, lk, reduceIte, Nat.reduceEqDiff]; rfl) ?_)); clear hK7
      refine V_sr T.mix (by kernel_rfl) (fun K8 hK8 => ?_)
      refine S_bld rfl (T.bld155_1_2 _ _) ?_
      refine S_stl T.sz155 rfl rfl rfl rfl (fun j hj => by simp (disch := omega) only [hRok]) ?_
      generalize hh : putsH _ _ _ _ = h9
      have hR9 : B h9 (h.size) #[.string ⟨#[]⟩, .int .i64 2, .int .i64 1, .int .i64 0] 155 := by rw [← hh]; exact puts_all (hR1) (cs' := #[.string ⟨#[]⟩, .int .i64 2, .int .i64 1, .int .i64 0]) rfl
      have hEh9 : Ext (fun k => k = h.size) h1 h9 := by rw [← hh]; exact Ext.puts (S := fun k => k = h.size) rfl _ _ _
      clear hh
      refine S_nil (hK8 _ _ (V_keep [6] (by simp only [proj, lk, reduceIte, Nat.reduceEqDiff]; rfl) ?_)); clear hK8
      refine V_ret ?_
      refine hR _ _ (retc1 rfl rfl T.ag155 hR9 (by rfl) ?_)
      obtain ⟨z1, z2, z3, z4⟩ := st_lng (raw := raw) (ch := ch) (l := lst) (n := out.length) (out := out) (by omega)
      rw [z1, z2, z3, z4]
      exact ⟨_, _, _, _, rfl, sw1.ext hEh9 (fun z w e => by have h9 := sw.lt w; omega), .inr (.inr ⟨rfl, rfl, _, w_.ph 10⟩), ⟨[], (List.append_nil _).symm⟩, fun _ z => by omega, (hXA.trans hEh1).step hEh9 (fun z hz e => by omega)⟩
    · skip
      have hfit : raw.size + ch.size ≤ 512 := by omega
      refine V_skipk [0, 1, 2, 6] (by simp only [proj, lk, reduceIte, Nat.reduceEqDiff]; rfl) ?_
      refine hK5 _ _ ?_; clear hK5
      refine V_seq (fun K9 hK9 => ?_)
      refine V_sr T.mix (by kernel_rfl) (fun K10 hK10 => ?_)
      refine S_as rfl ?_
      refine S_nil (hK10 _ _ (V_keep [0, 1, 2, 6, 7] (by simp only [proj, lk, reduceIte, Nat.reduceEqDiff]; rfl) ?_)); clear hK10
      refine V_block ?_
      refine V_loop (fun m l h' => ∃ (i : Nat) (hk : Heap), (i ≤ ch.size) ∧ (SW hk W r (tpS raw ch i s.p) ua ub) ∧ (Ext (WTs W) h hk) ∧ (B hk h.size #[.string ⟨#[]⟩, .int .i64 0, .int .i64 0, .int .i64 0] 155) ∧ m = ch.size - i ∧ l = [(0, .pointer (some ⟨W.D, 0, none⟩)), (1, .string ch), (2, .bool lst), (6, .pointer (some ⟨h.size, 0, none⟩)), (7, .int .i64 (i : Int))] ∧ hk = h') _ ⟨0, hA, Nat.zero_le _, swA.eq hs0, hXA, hRA, rfl, rfl, rfl⟩ ?_
      rintro m l h' ⟨i, hk, hi, swk, hEk, hRk, rfl, rfl, rfl⟩ K11 hK11
      try clear q0 q1 q2 q3 q4 q5 q6 q7 q8 q9 q10 q11 q12 q13 q14 q15 q16 q17 q18 q19 q20 dok
      obtain ⟨q0, q1, q2, q3, q4, q5, q6, q7, q8, q9, q10, q11, q12, q13, q14, q15, q16, q17, q18, q19, q20⟩ := dq (swk.x)
      have dok := dok_ (swk.x)
      try simp only [] at q0 q1 q2 q3 q4 q5 q6 q7 q8 q9 q10 q11 q12 q13 q14 q15 q16 q17 q18 q19 q20
      refine V_seq (fun K12 hK12 => ?_)
      refine V_sr T.mix (by kernel_rfl) (fun K13 hK13 => ?_)
      refine S_mv rfl ?_
      refine S_mv rfl ?_
      refine S_lens T.kd9 rfl ?_
      refine S_bin rfl rfl rfl ?_
      refine S_nil (hK13 _ _ (V_keep [0, 1, 2, 6, 7, 31] (by simp only [proj, lk, reduceIte, Nat.reduceEqDiff]; rfl) ?_)); clear hK13
      refine V_condp rfl (fun c85 => ?_) (fun c85 => ?_)
      · skip
        refine V_skipk [0, 1, 2, 6, 7] (by simp only [proj, lk, reduceIte, Nat.reduceEqDiff]; rfl) ?_
        refine hK12 _ _ ?_; clear hK12
        refine V_seq (fun K14 hK14 => ?_)
        refine V_block ?_
        refine V_reg T.mix (by kernel_rfl) ?_
        refine S_mv rfl ?_
        refine S_nc rfl ?_
        first | refine S_fa0 T.f77_0 rfl ?_ | refine S_fa T.f77_0 rfl ?_
        refine S_ldK T.ag47 rfl (fun K' hK' => ?_)
        simp (disch := omega) only [q0, q1, q2, q3, q4, q5, q6, q7, q8, q9, q10, q11, q12, q13, q14, q15, q16, q17, q18, q19, q20, oP_some, Nat.add_zero]
        refine hK' _ ?_; clear hK' K'
        refine S_mv rfl ?_
        refine S_mv rfl ?_
        refine S_si T.kd9 rfl rfl (by omega) (by omega) ?_
        rw [Int.toNat_natCast]
        obtain ⟨bv, hbv⟩ : ∃ x, x = bAt ch i := ⟨_, rfl⟩
        rw [← hbv]
        have hb8 : bv < 256 := by rw [hbv]; exact bAt_lt _ _
        first | refine S_cvi T.us5 T.in3 rfl (by omega) (by omega) ?_ | refine S_cv T.us5 T.in3 rfl ?_
        refine S_call T.hb96 rfl ?_
        refine FC.mono (BitW.put_spec hk W.T W.tb _ swk.rt ((bv : Nat) : Int) 8) ?_
        rintro v' h1 ⟨_, rt1, hX1⟩
        rw [hbv, tp_put (by omega)] at rt1
        have sw1 := swk.st rt1 hX1
        have hEh1 : Ext (WTs W) hk h1 := hX1.mono fun _ e => wsT e
        refine S_nilk [0, 1, 2, 6, 7] (by simp only [proj, lk, reduceIte, Nat.reduceEqDiff]; rfl) ?_
        refine hK14 _ _ ?_; clear hK14
        refine V_reg T.mix (by kernel_rfl) ?_
        refine S_mv rfl ?_
        refine S_addN (i + 1) rfl rfl (by omega) (by omega) ?_
        refine S_as rfl ?_
        refine S_nilk [0, 1, 2, 6, 7] (by simp only [proj, lk, reduceIte, Nat.reduceEqDiff]; rfl) ?_
        exact hK11 _ _ ⟨_, by omega, i + 1, h1, by omega, sw1, hEk.trans hEh1, (hRk).ext hEh1 (fun w => by have h9 := sw.lt w; omega), rfl, rfl, rfl⟩
      · skip
        refine V_exitk [0, 1, 2, 6] rfl (by simp only [proj, lk, reduceIte, Nat.reduceEqDiff]; rfl) ?_
        refine hK9 _ _ ?_; clear hK9
        refine V_sr T.mix (by kernel_rfl) (fun K15 hK15 => ?_)
        refine S_mv rfl ?_
        refine S_mv rfl ?_
        refine S_nc rfl ?_
        first | refine S_fa0 T.f77_20 rfl ?_ | refine S_fa T.f77_20 rfl ?_
        refine S_ldK T.ag3 rfl (fun K' hK' => ?_)
        simp (disch := omega) only [q0, q1, q2, q3, q4, q5, q6, q7, q8, q9, q10, q11, q12, q13, q14, q15, q16, q17, q18, q19, q20, oP_some, Nat.add_zero]
        refine hK' _ ?_; clear hK' K'
        refine S_mv rfl ?_
        refine S_lens T.kd9 rfl ?_
        refine S_addN (raw.size + ch.size) rfl rfl (by omega) (by omega) ?_
        refine S_nc rfl ?_
        first | refine S_fa0 T.f77_20 rfl ?_ | refine S_fa T.f77_20 rfl ?_
        refine S_st T.sz3 rfl rfl rfl rfl (by simp (disch := omega) only [dok]) ?_
        generalize hh : putH _ _ _ = h1
        have sw1 := swk.sx (h' := h1) (r' := { r with fed := raw.size + ch.size }) (by rw [← hh]; exact (swk.x.put 20 _).cong (by simp [dcs])) (by rw [← hh]; exact Ext.put _ _ rfl) rfl rfl rfl
        have hEh1 : Ext (WTs W) hk h1 := by rw [← hh]; exact Ext.put _ _ wd0
        clear hh
        try clear q0 q1 q2 q3 q4 q5 q6 q7 q8 q9 q10 q11 q12 q13 q14 q15 q16 q17 q18 q19 q20 dok
        obtain ⟨q0, q1, q2, q3, q4, q5, q6, q7, q8, q9, q10, q11, q12, q13, q14, q15, q16, q17, q18, q19, q20⟩ := dq (sw1.x)
        have dok := dok_ (sw1.x)
        try simp only [] at q0 q1 q2 q3 q4 q5 q6 q7 q8 q9 q10 q11 q12 q13 q14 q15 q16 q17 q18 q19 q20
        refine S_nil (hK15 _ _ (V_keep [0, 2, 6] (by simp only [proj, lk, reduceIte, Nat.reduceEqDiff]; rfl) ?_)); clear hK15
        refine V_sr T.mix (by kernel_rfl) (fun K16 hK16 => ?_)
        refine S_mv rfl ?_
        refine S_nc rfl ?_
        first | refine S_fa0 T.f77_18 rfl ?_ | refine S_fa T.f77_18 rfl ?_
        refine S_st T.sz3 rfl rfl rfl rfl (by simp (disch := omega) only [dok]) ?_
        generalize hh : putH _ _ _ = h2
        have sw2 := sw1.sx (h' := h2) (r' := { { r with fed := raw.size + ch.size } with n := 0 }) (by rw [← hh]; exact (sw1.x.put 18 _).cong (by simp [dcs])) (by rw [← hh]; exact Ext.put _ _ rfl) rfl rfl rfl
        have hEh2 : Ext (WTs W) h1 h2 := by rw [← hh]; exact Ext.put _ _ wd0
        clear hh
        try clear q0 q1 q2 q3 q4 q5 q6 q7 q8 q9 q10 q11 q12 q13 q14 q15 q16 q17 q18 q19 q20 dok
        obtain ⟨q0, q1, q2, q3, q4, q5, q6, q7, q8, q9, q10, q11, q12, q13, q14, q15, q16, q17, q18, q19, q20⟩ := dq (sw2.x)
        have dok := dok_ (sw2.x)
        try simp only [] at q0 q1 q2 q3 q4 q5 q6 q7 q8 q9 q10 q11 q12 q13 q14 q15 q16 q17 q18 q19 q20
        refine S_nil (hK16 _ _ (V_keep [0, 2, 6] (by simp only [proj, lk, reduceIte, Nat.reduceEqDiff]; rfl) ?_)); clear hK16
        refine V_sr T.mix (by kernel_rfl) (fun K17 hK17 => ?_)
        refine S_as rfl ?_
        refine S_nil (hK17 _ _ (V_keep [0, 2, 6, 8] (by simp only [proj, lk, reduceIte, Nat.reduceEqDiff]; rfl) ?_)); clear hK17
        refine V_seqJ (fun l h' => ∃ (hL : Heap) (rL : SR) (oL : List Int) (sL : TS) (vaL vbL : HC) (eL : Nat), (SW hL W rL sL vaL vbL) ∧ (∃ x, oL = out ++ x) ∧ (Ext (WTs W) h hL) ∧ (B hL h.size #[.string ⟨#[]⟩, .int .i64 0, .int .i64 0, .int .i64 0] 155) ∧ (LI (raw ++ ch) rL oL out.length sL vaL vbL eL) ∧ (eL = 0 → rL.ph = 8) ∧ l = [(0, .pointer (some ⟨W.D, 0, none⟩)), (2, .bool lst), (6, .pointer (some ⟨h.size, 0, none⟩)), (8, .int .i64 (eL : Int))] ∧ hL = h') ?_ ?_
        · skip
          refine V_block ?_
          refine V_loop (fun m l h' => ∃ (ek : Nat) (hk : Heap) (rk : SR) (ok_ : List Int) (sk : TS) (vak vbk : HC), (SW hk W rk sk vak vbk) ∧ (∃ x, ok_ = out ++ x) ∧ (Ext (WTs W) h hk) ∧ (B hk h.size #[.string ⟨#[]⟩, .int .i64 0, .int .i64 0, .int .i64 0] 155) ∧ (LI (raw ++ ch) rk ok_ out.length sk vak vbk ek) ∧ m = lz rk sk ek ∧ l = [(0, .pointer (some ⟨W.D, 0, none⟩)), (2, .bool lst), (6, .pointer (some ⟨h.size, 0, none⟩)), (8, .int .i64 (ek : Int))] ∧ hk = h') _ ⟨0, h2, { { r with fed := raw.size + ch.size } with n := 0 }, out, _, ua, ub, sw2, ⟨[], (List.append_nil _).symm⟩, (hEk.trans hEh1).trans hEh2, ((hRk).ext hEh1 (fun w => by have h9 := sw.lt w; omega)).ext hEh2 (fun w => by have h9 := sw.lt w; omega), .inl ⟨rfl, fa, fb, by have h9 := m.fed hfit; have hii : i = ch.size := (by omega); rw [hii]; exact h9⟩, rfl, rfl, rfl⟩ ?_
          rintro m l h' ⟨ek, hk, rk, ok_, sk, vak, vbk, swk, hxk, hEk, hRk, lik, rfl, rfl, rfl⟩ K19 hK19
          try clear q0 q1 q2 q3 q4 q5 q6 q7 q8 q9 q10 q11 q12 q13 q14 q15 q16 q17 q18 q19 q20 dok
          obtain ⟨q0, q1, q2, q3, q4, q5, q6, q7, q8, q9, q10, q11, q12, q13, q14, q15, q16, q17, q18, q19, q20⟩ := dq (swk.x)
          have dok := dok_ (swk.x)
          try simp only [] at q0 q1 q2 q3 q4 q5 q6 q7 q8 q9 q10 q11 q12 q13 q14 q15 q16 q17 q18 q19 q20
          refine V_seq (fun K20 hK20 => ?_)
          refine V_sr T.mix (by kernel_rfl) (fun K21 hK21 => ?_)
          refine S_mv rfl ?_
          refine S_bin rfl rfl rfl ?_
          refine S_mv rfl ?_
          refine S_dec (fun g91 => ?_) (fun g91 => ?_)
          · skip
            have hek : ek = 0 := by omega
            subst hek
            refine S_gt rfl ?_
            refine S_mv rfl ?_
            refine S_gt rfl ?_
            refine S_nc rfl ?_
            refine S_gt rfl ?_
            first | refine S_fa0 T.f77_4 rfl ?_ | refine S_fa T.f77_4 rfl ?_
            refine S_gt rfl ?_
            refine S_ldK T.ag3 rfl (fun K' hK' => ?_)
            simp (disch := omega) only [q0, q1, q2, q3, q4, q5, q6, q7, q8, q9, q10, q11, q12, q13, q14, q15, q16, q17, q18, q19, q20, oP_some, Nat.add_zero]
            refine hK' _ ?_; clear hK' K'
            refine S_gt rfl ?_
            refine S_bin rfl rfl rfl ?_
            refine S_pt rfl rfl ?_
            refine S_nil (hK21 _ _ (V_keep [0, 2, 6, 8, 64] (by simp only [proj, lk, reduceIte, Nat.reduceEqDiff]; rfl) ?_)); clear hK21
            refine V_condp rfl (fun c91 => ?_) (fun c91 => ?_)
            · skip
              refine V_skipk [0, 2, 6] (by simp only [proj, lk, reduceIte, Nat.reduceEqDiff]; rfl) ?_
              refine hK20 _ _ ?_; clear hK20
              refine V_block ?_
              refine V_reg T.mix (by kernel_rfl) ?_
              refine S_mv rfl ?_
              refine S_call T.hb115 rfl ?_
              obtain ⟨fa1, fb1, mk⟩ : ∃ fa fb, MI (raw ++ ch) rk ok_ out.length sk vak vbk fa fb := by rcases lik with ⟨_, q⟩ | ⟨q, _⟩; (exact q); (omega)
              refine FC.mono (turn_spec hk W rk sk vak vbk swk (raw ++ ch) ok_ out.length fa1 fb1 mk (by omega)) ?_
              rintro v' h1 ⟨e9, r9, o9, s9, va, vb, rfl, sw9, tp9, hE9, hx9⟩
              obtain ⟨li9, lz9⟩ := mk.turn tp9
              refine S_as rfl ?_
              refine S_nilk [0, 2, 6, 8] (by simp only [proj, lk, reduceIte, Nat.reduceEqDiff]; rfl) ?_
              exact hK19 _ _ ⟨_, by omega, e9, h1, r9, o9, s9, va, vb, sw9, by obtain ⟨x, hx⟩ := hxk; obtain ⟨y, hy⟩ := hx9; exact ⟨x ++ y, by rw [hy, hx, List.append_assoc]⟩, hEk.trans hE9, (hRk).ext hE9 (fun w => by have h9 := sw.lt w; omega), li9, rfl, rfl, rfl⟩
            · skip
              refine V_exitk [0, 2, 6, 8] rfl (by simp only [proj, lk, reduceIte, Nat.reduceEqDiff]; rfl) ?_
              exact ⟨hk, rk, ok_, sk, vak, vbk, _, swk, hxk, hEk, hRk, lik, fun _ => by omega, rfl, rfl⟩
          · skip
            refine S_gf rfl ?_
            refine S_gf rfl ?_
            refine S_gf rfl ?_
            refine S_gf rfl ?_
            refine S_gf rfl ?_
            refine S_pf rfl rfl ?_
            refine S_nil (hK21 _ _ (V_keep [0, 2, 6, 8, 64] (by simp only [proj, lk, reduceIte, Nat.reduceEqDiff]; rfl) ?_)); clear hK21
            refine V_condf rfl ?_
            refine V_exitk [0, 2, 6, 8] rfl (by simp only [proj, lk, reduceIte, Nat.reduceEqDiff]; rfl) ?_
            exact ⟨hk, rk, ok_, sk, vak, vbk, _, swk, hxk, hEk, hRk, lik, fun z => by omega, rfl, rfl⟩
        rintro l h' ⟨hL, rL, oL, sL, vaL, vbL, eL, swL, hxL, hEL, hRL, liL, hpL, rfl, rfl⟩
        have hpL1 := hpL
        try clear q0 q1 q2 q3 q4 q5 q6 q7 q8 q9 q10 q11 q12 q13 q14 q15 q16 q17 q18 q19 q20 dok
        obtain ⟨q0, q1, q2, q3, q4, q5, q6, q7, q8, q9, q10, q11, q12, q13, q14, q15, q16, q17, q18, q19, q20⟩ := dq (swL.x)
        have dok := dok_ (swL.x)
        try simp only [] at q0 q1 q2 q3 q4 q5 q6 q7 q8 q9 q10 q11 q12 q13 q14 q15 q16 q17 q18 q19 q20
        refine V_seqJ (fun l h' => ∃ (hT : Heap) (rT : SR) (oT : List Int) (sT : TS) (vaT vbT : HC) (eT : Nat), (SW hT W rT sT vaT vbT) ∧ (∃ x, oT = out ++ x) ∧ (Ext (WTs W) h hT) ∧ (B hT h.size #[.string ⟨#[]⟩, .int .i64 0, .int .i64 0, .int .i64 0] 155) ∧ (FnE (raw ++ ch) rT oT out.length sT vaT vbT eT) ∧ l = [(0, .pointer (some ⟨W.D, 0, none⟩)), (2, .bool lst), (6, .pointer (some ⟨h.size, 0, none⟩)), (8, .int .i64 (eT : Int))] ∧ hT = h') ?_ ?_
        · skip
          refine V_sr T.mix (by kernel_rfl) (fun K23 hK23 => ?_)
          refine S_mv rfl ?_
          refine S_bin rfl rfl rfl ?_
          refine S_nil (hK23 _ _ (V_keep [0, 2, 6, 8, 68] (by simp only [proj, lk, reduceIte, Nat.reduceEqDiff]; rfl) ?_)); clear hK23
          refine V_condp rfl (fun c94 => ?_) (fun c94 => ?_)
          · skip
            have heL : eL = 0 := by omega
            subst heL
            obtain ⟨fa1, fb1, mL⟩ : ∃ fa fb, MI (raw ++ ch) rL oL out.length sL vaL vbL fa fb := by rcases liL with ⟨_, q⟩ | ⟨q, _⟩; (exact q); (omega)
            refine V_reg T.mix (by kernel_rfl) ?_
            refine S_mv rfl ?_
            refine S_call T.hb116 rfl ?_
            refine FC.mono (tail_spec hL W rL sL vaL vbL swL) ?_
            rintro v' h1 ⟨rfl, sw1, hE1⟩
            have fn1 := mL.tail (by omega)
            refine S_as rfl ?_
            refine S_nilk [0, 2, 6, 8] (by simp only [proj, lk, reduceIte, Nat.reduceEqDiff]; rfl) ?_
            exact ⟨h1, _, oL, sL, vaL, vbL, _, sw1, hxL, hEL.trans hE1, (hRL).ext hE1 (fun w => by have h9 := sw.lt w; omega), fn1, rfl, rfl⟩
          · skip
            have fnL : FnE (raw ++ ch) rL oL out.length sL vaL vbL eL := by rcases liL with ⟨q, _⟩ | ⟨_, q⟩; (omega); (exact q)
            refine V_skipk [0, 2, 6, 8] (by simp only [proj, lk, reduceIte, Nat.reduceEqDiff]; rfl) ?_
            exact ⟨hL, rL, oL, sL, vaL, vbL, eL, swL, hxL, hEL, hRL, fnL, rfl, rfl⟩
        rintro l h' ⟨hT, rT, oT, sT, vaT, vbT, eT, swT, hxT, hET, hRT, fnT, rfl, rfl⟩
        try clear q0 q1 q2 q3 q4 q5 q6 q7 q8 q9 q10 q11 q12 q13 q14 q15 q16 q17 q18 q19 q20 dok
        obtain ⟨q0, q1, q2, q3, q4, q5, q6, q7, q8, q9, q10, q11, q12, q13, q14, q15, q16, q17, q18, q19, q20⟩ := dq (swT.x)
        have dok := dok_ (swT.x)
        try simp only [] at q0 q1 q2 q3 q4 q5 q6 q7 q8 q9 q10 q11 q12 q13 q14 q15 q16 q17 q18 q19 q20
        try clear hRok
        have hRok : ∀ j, j < 4 → okPut hT ⟨h.size, j, none⟩ = true := fun j hj => hRT.ok (by simpa using hj)
        have hnT := fnT.w.si.n
        have hlT := fnT.w.si.le
        refine V_sr T.mix (by kernel_rfl) (fun K24 hK24 => ?_)
        refine S_mv rfl ?_
        refine S_nc rfl ?_
        first | refine S_fa0 T.f77_17 rfl ?_ | refine S_fa T.f77_17 rfl ?_
        refine S_ldK T.ag55 rfl (fun K' hK' => ?_)
        simp (disch := omega) only [q0, q1, q2, q3, q4, q5, q6, q7, q8, q9, q10, q11, q12, q13, q14, q15, q16, q17, q18, q19, q20, oP_some, Nat.add_zero]
        refine hK' _ ?_; clear hK' K'
        refine S_mv rfl ?_
        refine S_nc rfl ?_
        first | refine S_fa0 T.f77_18 rfl ?_ | refine S_fa T.f77_18 rfl ?_
        refine S_ldK T.ag3 rfl (fun K' hK' => ?_)
        simp (disch := omega) only [q0, q1, q2, q3, q4, q5, q6, q7, q8, q9, q10, q11, q12, q13, q14, q15, q16, q17, q18, q19, q20, oP_some, Nat.add_zero]
        refine hK' _ ?_; clear hK' K'
        refine S_sl rfl rfl rfl (sliceV_hi T.el55 (by omega) (by omega)) ?_
        refine S_str T.kd55 T.kd9 T.in9 rfl (srcV_u8p swT.f (by omega)) ?_
        rw [Int.toNat_natCast, fnT.w.si.str]
        refine S_as rfl ?_
        refine S_nil (hK24 _ _ (V_keep [0, 2, 6, 8, 9] (by simp only [proj, lk, reduceIte, Nat.reduceEqDiff]; rfl) ?_)); clear hK24
        refine V_seq (fun K25 hK25 => ?_)
        refine V_sr T.mix (by kernel_rfl) (fun K26 hK26 => ?_)
        refine S_mv rfl ?_
        refine S_bin rfl rfl rfl ?_
        refine S_mv rfl ?_
        refine S_dec (fun g98 => ?_) (fun g98 => ?_)
        · skip
          refine S_gt rfl ?_
          refine S_mv rfl ?_
          refine S_pt rfl rfl ?_
          refine S_nil (hK26 _ _ (V_keep [0, 2, 6, 8, 9, 85] (by simp only [proj, lk, reduceIte, Nat.reduceEqDiff]; rfl) ?_)); clear hK26
          refine V_condb rfl (fun c98 => ?_) (fun c98 => ?_)
          · skip
            refine V_sr T.mix (by kernel_rfl) (fun K27 hK27 => ?_)
            refine S_mv rfl ?_
            refine S_nc rfl ?_
            first | refine S_fa0 T.f77_4 rfl ?_ | refine S_fa T.f77_4 rfl ?_
            refine S_st T.sz3 rfl rfl rfl rfl (by simp (disch := omega) only [dok]) ?_
            generalize hh : putH _ _ _ = h1
            have sw1 := swT.sx (h' := h1) (r' := { rT with ph := 9 }) (by rw [← hh]; exact (swT.x.put 4 _).cong (by simp [dcs])) (by rw [← hh]; exact Ext.put _ _ rfl) rfl rfl rfl
            have hEh1 : Ext (WTs W) hT h1 := by rw [← hh]; exact Ext.put _ _ wd0
            clear hh
            try clear q0 q1 q2 q3 q4 q5 q6 q7 q8 q9 q10 q11 q12 q13 q14 q15 q16 q17 q18 q19 q20 dok
            obtain ⟨q0, q1, q2, q3, q4, q5, q6, q7, q8, q9, q10, q11, q12, q13, q14, q15, q16, q17, q18, q19, q20⟩ := dq (sw1.x)
            have dok := dok_ (sw1.x)
            try simp only [] at q0 q1 q2 q3 q4 q5 q6 q7 q8 q9 q10 q11 q12 q13 q14 q15 q16 q17 q18 q19 q20
            have hR1 := (hRT).ext hEh1 (fun w => by have h9 := sw.lt w; omega)
            try clear hRok
            have hRok : ∀ j, j < 4 → okPut h1 ⟨h.size, j, none⟩ = true := fun j hj => hR1.ok (by simpa using hj)
            refine S_nil (hK27 _ _ (V_keep [6, 9] (by simp only [proj, lk, reduceIte, Nat.reduceEqDiff]; rfl) ?_)); clear hK27
            refine V_sr T.mix (by kernel_rfl) (fun K28 hK28 => ?_)
            refine S_mv rfl ?_
            refine S_bld rfl (T.bld155_0_1 _ _) ?_
            refine S_stl T.sz155 rfl rfl rfl rfl (fun j hj => by simp (disch := omega) only [hRok]) ?_
            generalize hh : putsH _ _ _ _ = h9
            have hR9 : B h9 (h.size) #[.string (mkS (oT.drop out.length)), .int .i64 1, .int .i64 0, .int .i64 0] 155 := by rw [← hh]; exact puts_all (hR1) (cs' := #[.string (mkS (oT.drop out.length)), .int .i64 1, .int .i64 0, .int .i64 0]) rfl
            have hEh9 : Ext (fun k => k = h.size) h1 h9 := by rw [← hh]; exact Ext.puts (S := fun k => k = h.size) rfl _ _ _
            clear hh
            refine S_nil (hK28 _ _ (V_keep [6] (by simp only [proj, lk, reduceIte, Nat.reduceEqDiff]; rfl) ?_)); clear hK28
            refine V_ret ?_
            refine hR _ _ (retc1 rfl rfl T.ag155 hR9 (by rfl) ?_)
            first
              | (exfalso; revert g102; first | (revert c98; cases lst <;> simp; done) | (revert c98a; cases lst <;> simp; done))
              | (have hq0 : eT = 0 := (by omega); have hq1 : lst = true := (by assumption); obtain ⟨hv9, rs9⟩ := fnT.done hfit hq0 hq1; obtain ⟨n1, n2, _, _⟩ := fnT.nx (l := lst) hfit; exact ⟨_, _, _, _, by rw [hv9], sw1.ext hEh9 (fun z w e => by have h9 := sw.lt w; omega), rs9, by rw [n2]; exact hxT, fun _ _ => fnT.pz, (hET.trans hEh1).step hEh9 (fun z hz e => by omega)⟩)
              | (have hq0 : eT = 0 ∨ eT = 4 := (by omega); have hq1 : lst = false := (by cases lst; (rfl); (simp at *)); obtain ⟨hv9, rs9⟩ := fnT.more hfit hq0 hq1; obtain ⟨n1, n2, _, _⟩ := fnT.nx (l := lst) hfit; exact ⟨_, _, _, _, by rw [hv9], swT.ext hEh9 (fun z w e => by have h9 := sw.lt w; omega), rs9, by rw [n2]; exact hxT, fun _ _ => fnT.pz, hET.step hEh9 (fun z hz e => by omega)⟩)
              | (have hq0 : eT ≠ 0 := (by omega); have hq1 : lst = true ∨ eT ≠ 4 := (by first | exact .inr (by omega) | (left; cases lst; (simp at *); (rfl))); obtain ⟨hv9, rs9⟩ := fnT.fail hfit hq0 hq1; obtain ⟨n1, n2, _, _⟩ := fnT.nx (l := lst) hfit; exact ⟨_, _, _, _, by rw [hv9], sw1.ext hEh9 (fun z w e => by have h9 := sw.lt w; omega), rs9, by rw [n2]; exact hxT, fun _ _ => fnT.pz, (hET.trans hEh1).step hEh9 (fun z hz e => by omega)⟩)
          · skip
            refine V_skipk [0, 2, 6, 8, 9] (by simp only [proj, lk, reduceIte, Nat.reduceEqDiff]; rfl) ?_
            refine hK25 _ _ ?_; clear hK25
            refine V_seq (fun K29 hK29 => ?_)
            refine V_sr T.mix (by kernel_rfl) (fun K30 hK30 => ?_)
            refine S_mv rfl ?_
            refine S_notb rfl ?_
            refine S_mv rfl ?_
            refine S_decb (fun g102 => ?_) (fun g102 => ?_)
            · skip
              refine S_gt rfl ?_
              refine S_mv rfl ?_
              refine S_gt rfl ?_
              refine S_bin rfl rfl rfl ?_
              refine S_gt rfl ?_
              refine S_mv rfl ?_
              refine S_dec (fun g102a => ?_) (fun g102a => ?_)
              · skip
                refine S_gf rfl ?_
                refine S_gf rfl ?_
                refine S_gt rfl ?_
                refine S_pt rfl rfl ?_
                refine S_pt rfl rfl ?_
                refine S_nil (hK30 _ _ (V_keep [0, 6, 8, 9, 100] (by simp only [proj, lk, reduceIte, Nat.reduceEqDiff]; rfl) ?_)); clear hK30
                refine V_condt rfl ?_
                refine V_sr T.mix (by kernel_rfl) (fun K31 hK31 => ?_)
                refine S_mv rfl ?_
                refine S_bld rfl (T.bld155_0_1 _ _) ?_
                refine S_stl T.sz155 rfl rfl rfl rfl (fun j hj => by simp (disch := omega) only [hRok]) ?_
                generalize hh : putsH _ _ _ _ = h9
                have hR9 : B h9 (h.size) #[.string (mkS (oT.drop out.length)), .int .i64 0, .int .i64 0, .int .i64 0] 155 := by rw [← hh]; exact puts_all (hRT) (cs' := #[.string (mkS (oT.drop out.length)), .int .i64 0, .int .i64 0, .int .i64 0]) rfl
                have hEh9 : Ext (fun k => k = h.size) hT h9 := by rw [← hh]; exact Ext.puts (S := fun k => k = h.size) rfl _ _ _
                clear hh
                refine S_nil (hK31 _ _ (V_keep [6] (by simp only [proj, lk, reduceIte, Nat.reduceEqDiff]; rfl) ?_)); clear hK31
                refine V_ret ?_
                refine hR _ _ (retc1 rfl rfl T.ag155 hR9 (by rfl) ?_)
                first
                  | (exfalso; revert g102; first | (revert c98; cases lst <;> simp; done) | (revert c98a; cases lst <;> simp; done))
                  | (have hq0 : eT = 0 := (by omega); have hq1 : lst = true := (by assumption); obtain ⟨hv9, rs9⟩ := fnT.done hfit hq0 hq1; obtain ⟨n1, n2, _, _⟩ := fnT.nx (l := lst) hfit; exact ⟨_, _, _, _, by rw [hv9], sw1.ext hEh9 (fun z w e => by have h9 := sw.lt w; omega), rs9, by rw [n2]; exact hxT, fun _ _ => fnT.pz, (hET.trans hEh1).step hEh9 (fun z hz e => by omega)⟩)
                  | (have hq0 : eT = 0 ∨ eT = 4 := (by omega); have hq1 : lst = false := (by cases lst; (rfl); (simp at *)); obtain ⟨hv9, rs9⟩ := fnT.more hfit hq0 hq1; obtain ⟨n1, n2, _, _⟩ := fnT.nx (l := lst) hfit; exact ⟨_, _, _, _, by rw [hv9], swT.ext hEh9 (fun z w e => by have h9 := sw.lt w; omega), rs9, by rw [n2]; exact hxT, fun _ _ => fnT.pz, hET.step hEh9 (fun z hz e => by omega)⟩)
                  | (have hq0 : eT ≠ 0 := (by omega); have hq1 : lst = true ∨ eT ≠ 4 := (by first | exact .inr (by omega) | (left; cases lst; (simp at *); (rfl))); obtain ⟨hv9, rs9⟩ := fnT.fail hfit hq0 hq1; obtain ⟨n1, n2, _, _⟩ := fnT.nx (l := lst) hfit; exact ⟨_, _, _, _, by rw [hv9], sw1.ext hEh9 (fun z w e => by have h9 := sw.lt w; omega), rs9, by rw [n2]; exact hxT, fun _ _ => fnT.pz, (hET.trans hEh1).step hEh9 (fun z hz e => by omega)⟩)
              · skip
                refine S_gt rfl ?_
                refine S_mv rfl ?_
                refine S_gt rfl ?_
                refine S_bin rfl rfl rfl ?_
                refine S_gt rfl ?_
                refine S_pf rfl rfl ?_
                refine S_pt rfl rfl ?_
                refine S_nil (hK30 _ _ (V_keep [0, 6, 8, 9, 100] (by simp only [proj, lk, reduceIte, Nat.reduceEqDiff]; rfl) ?_)); clear hK30
                refine V_condp rfl (fun c102 => ?_) (fun c102 => ?_)
                · skip
                  refine V_sr T.mix (by kernel_rfl) (fun K32 hK32 => ?_)
                  refine S_mv rfl ?_
                  refine S_bld rfl (T.bld155_0_1 _ _) ?_
                  refine S_stl T.sz155 rfl rfl rfl rfl (fun j hj => by simp (disch := omega) only [hRok]) ?_
                  generalize hh : putsH _ _ _ _ = h9
                  have hR9 : B h9 (h.size) #[.string (mkS (oT.drop out.length)), .int .i64 0, .int .i64 0, .int .i64 0] 155 := by rw [← hh]; exact puts_all (hRT) (cs' := #[.string (mkS (oT.drop out.length)), .int .i64 0, .int .i64 0, .int .i64 0]) rfl
                  have hEh9 : Ext (fun k => k = h.size) hT h9 := by rw [← hh]; exact Ext.puts (S := fun k => k = h.size) rfl _ _ _
                  clear hh
                  refine S_nil (hK32 _ _ (V_keep [6] (by simp only [proj, lk, reduceIte, Nat.reduceEqDiff]; rfl) ?_)); clear hK32
                  refine V_ret ?_
                  refine hR _ _ (retc1 rfl rfl T.ag155 hR9 (by rfl) ?_)
                  first
                    | (exfalso; revert g102; first | (revert c98; cases lst <;> simp; done) | (revert c98a; cases lst <;> simp; done))
                    | (have hq0 : eT = 0 := (by omega); have hq1 : lst = true := (by assumption); obtain ⟨hv9, rs9⟩ := fnT.done hfit hq0 hq1; obtain ⟨n1, n2, _, _⟩ := fnT.nx (l := lst) hfit; exact ⟨_, _, _, _, by rw [hv9], sw1.ext hEh9 (fun z w e => by have h9 := sw.lt w; omega), rs9, by rw [n2]; exact hxT, fun _ _ => fnT.pz, (hET.trans hEh1).step hEh9 (fun z hz e => by omega)⟩)
                    | (have hq0 : eT = 0 ∨ eT = 4 := (by omega); have hq1 : lst = false := (by cases lst; (rfl); (simp at *)); obtain ⟨hv9, rs9⟩ := fnT.more hfit hq0 hq1; obtain ⟨n1, n2, _, _⟩ := fnT.nx (l := lst) hfit; exact ⟨_, _, _, _, by rw [hv9], swT.ext hEh9 (fun z w e => by have h9 := sw.lt w; omega), rs9, by rw [n2]; exact hxT, fun _ _ => fnT.pz, hET.step hEh9 (fun z hz e => by omega)⟩)
                    | (have hq0 : eT ≠ 0 := (by omega); have hq1 : lst = true ∨ eT ≠ 4 := (by first | exact .inr (by omega) | (left; cases lst; (simp at *); (rfl))); obtain ⟨hv9, rs9⟩ := fnT.fail hfit hq0 hq1; obtain ⟨n1, n2, _, _⟩ := fnT.nx (l := lst) hfit; exact ⟨_, _, _, _, by rw [hv9], sw1.ext hEh9 (fun z w e => by have h9 := sw.lt w; omega), rs9, by rw [n2]; exact hxT, fun _ _ => fnT.pz, (hET.trans hEh1).step hEh9 (fun z hz e => by omega)⟩)
                · skip
                  refine V_skipk [0, 6, 8, 9] (by simp only [proj, lk, reduceIte, Nat.reduceEqDiff]; rfl) ?_
                  refine hK29 _ _ ?_; clear hK29
                  refine V_sr T.mix (by kernel_rfl) (fun K33 hK33 => ?_)
                  refine S_mv rfl ?_
                  refine S_nc rfl ?_
                  first | refine S_fa0 T.f77_4 rfl ?_ | refine S_fa T.f77_4 rfl ?_
                  refine S_st T.sz3 rfl rfl rfl rfl (by simp (disch := omega) only [dok]) ?_
                  generalize hh : putH _ _ _ = h1
                  have sw1 := swT.sx (h' := h1) (r' := { rT with ph := 10 }) (by rw [← hh]; exact (swT.x.put 4 _).cong (by simp [dcs])) (by rw [← hh]; exact Ext.put _ _ rfl) rfl rfl rfl
                  have hEh1 : Ext (WTs W) hT h1 := by rw [← hh]; exact Ext.put _ _ wd0
                  clear hh
                  try clear q0 q1 q2 q3 q4 q5 q6 q7 q8 q9 q10 q11 q12 q13 q14 q15 q16 q17 q18 q19 q20 dok
                  obtain ⟨q0, q1, q2, q3, q4, q5, q6, q7, q8, q9, q10, q11, q12, q13, q14, q15, q16, q17, q18, q19, q20⟩ := dq (sw1.x)
                  have dok := dok_ (sw1.x)
                  try simp only [] at q0 q1 q2 q3 q4 q5 q6 q7 q8 q9 q10 q11 q12 q13 q14 q15 q16 q17 q18 q19 q20
                  have hR1 := (hRT).ext hEh1 (fun w => by have h9 := sw.lt w; omega)
                  try clear hRok
                  have hRok : ∀ j, j < 4 → okPut h1 ⟨h.size, j, none⟩ = true := fun j hj => hR1.ok (by simpa using hj)
                  refine S_nil (hK33 _ _ (V_keep [0, 6, 8, 9] (by simp only [proj, lk, reduceIte, Nat.reduceEqDiff]; rfl) ?_)); clear hK33
                  refine V_sr T.mix (by kernel_rfl) (fun K34 hK34 => ?_)
                  refine S_mv rfl ?_
                  refine S_mv rfl ?_
                  refine S_mv rfl ?_
                  refine S_nc rfl ?_
                  first | refine S_fa0 T.f77_6 rfl ?_ | refine S_fa T.f77_6 rfl ?_
                  refine S_ldK T.ag3 rfl (fun K' hK' => ?_)
                  simp (disch := omega) only [q0, q1, q2, q3, q4, q5, q6, q7, q8, q9, q10, q11, q12, q13, q14, q15, q16, q17, q18, q19, q20, oP_some, Nat.add_zero]
                  refine hK' _ ?_; clear hK' K'
                  refine S_bld rfl (T.bld155_0_1_2_3 _ _ _ _) ?_
                  refine S_stl T.sz155 rfl rfl rfl rfl (fun j hj => by simp (disch := omega) only [hRok]) ?_
                  generalize hh : putsH _ _ _ _ = h9
                  have hR9 : B h9 (h.size) #[.string (mkS (oT.drop out.length)), .int .i64 2, .int .i64 ((eT : Nat) : Int), .int .i64 ((rT.at_ : Nat) : Int)] 155 := by rw [← hh]; exact puts_all (hR1) (cs' := #[.string (mkS (oT.drop out.length)), .int .i64 2, .int .i64 ((eT : Nat) : Int), .int .i64 ((rT.at_ : Nat) : Int)]) rfl
                  have hEh9 : Ext (fun k => k = h.size) h1 h9 := by rw [← hh]; exact Ext.puts (S := fun k => k = h.size) rfl _ _ _
                  clear hh
                  refine S_nil (hK34 _ _ (V_keep [6] (by simp only [proj, lk, reduceIte, Nat.reduceEqDiff]; rfl) ?_)); clear hK34
                  refine V_ret ?_
                  refine hR _ _ (retc1 rfl rfl T.ag155 hR9 (by rfl) ?_)
                  first
                    | (exfalso; revert g102; first | (revert c98; cases lst <;> simp; done) | (revert c98a; cases lst <;> simp; done))
                    | (have hq0 : eT = 0 := (by omega); have hq1 : lst = true := (by assumption); obtain ⟨hv9, rs9⟩ := fnT.done hfit hq0 hq1; obtain ⟨n1, n2, _, _⟩ := fnT.nx (l := lst) hfit; exact ⟨_, _, _, _, by rw [hv9], sw1.ext hEh9 (fun z w e => by have h9 := sw.lt w; omega), rs9, by rw [n2]; exact hxT, fun _ _ => fnT.pz, (hET.trans hEh1).step hEh9 (fun z hz e => by omega)⟩)
                    | (have hq0 : eT = 0 ∨ eT = 4 := (by omega); have hq1 : lst = false := (by cases lst; (rfl); (simp at *)); obtain ⟨hv9, rs9⟩ := fnT.more hfit hq0 hq1; obtain ⟨n1, n2, _, _⟩ := fnT.nx (l := lst) hfit; exact ⟨_, _, _, _, by rw [hv9], swT.ext hEh9 (fun z w e => by have h9 := sw.lt w; omega), rs9, by rw [n2]; exact hxT, fun _ _ => fnT.pz, hET.step hEh9 (fun z hz e => by omega)⟩)
                    | (have hq0 : eT ≠ 0 := (by omega); have hq1 : lst = true ∨ eT ≠ 4 := (by first | exact .inr (by omega) | (left; cases lst; (simp at *); (rfl))); obtain ⟨hv9, rs9⟩ := fnT.fail hfit hq0 hq1; obtain ⟨n1, n2, _, _⟩ := fnT.nx (l := lst) hfit; exact ⟨_, _, _, _, by rw [hv9], sw1.ext hEh9 (fun z w e => by have h9 := sw.lt w; omega), rs9, by rw [n2]; exact hxT, fun _ _ => fnT.pz, (hET.trans hEh1).step hEh9 (fun z hz e => by omega)⟩)
            · skip
              refine S_gf rfl ?_
              refine S_gf rfl ?_
              refine S_gf rfl ?_
              refine S_gf rfl ?_
              refine S_gf rfl ?_
              refine S_gf rfl ?_
              refine S_pf rfl rfl ?_
              refine S_nil (hK30 _ _ (V_keep [0, 6, 8, 9, 100] (by simp only [proj, lk, reduceIte, Nat.reduceEqDiff]; rfl) ?_)); clear hK30
              refine V_condf rfl ?_
              refine V_skipk [0, 6, 8, 9] (by simp only [proj, lk, reduceIte, Nat.reduceEqDiff]; rfl) ?_
              refine hK29 _ _ ?_; clear hK29
              refine V_sr T.mix (by kernel_rfl) (fun K35 hK35 => ?_)
              refine S_mv rfl ?_
              refine S_nc rfl ?_
              first | refine S_fa0 T.f77_4 rfl ?_ | refine S_fa T.f77_4 rfl ?_
              refine S_st T.sz3 rfl rfl rfl rfl (by simp (disch := omega) only [dok]) ?_
              generalize hh : putH _ _ _ = h1
              have sw1 := swT.sx (h' := h1) (r' := { rT with ph := 10 }) (by rw [← hh]; exact (swT.x.put 4 _).cong (by simp [dcs])) (by rw [← hh]; exact Ext.put _ _ rfl) rfl rfl rfl
              have hEh1 : Ext (WTs W) hT h1 := by rw [← hh]; exact Ext.put _ _ wd0
              clear hh
              try clear q0 q1 q2 q3 q4 q5 q6 q7 q8 q9 q10 q11 q12 q13 q14 q15 q16 q17 q18 q19 q20 dok
              obtain ⟨q0, q1, q2, q3, q4, q5, q6, q7, q8, q9, q10, q11, q12, q13, q14, q15, q16, q17, q18, q19, q20⟩ := dq (sw1.x)
              have dok := dok_ (sw1.x)
              try simp only [] at q0 q1 q2 q3 q4 q5 q6 q7 q8 q9 q10 q11 q12 q13 q14 q15 q16 q17 q18 q19 q20
              have hR1 := (hRT).ext hEh1 (fun w => by have h9 := sw.lt w; omega)
              try clear hRok
              have hRok : ∀ j, j < 4 → okPut h1 ⟨h.size, j, none⟩ = true := fun j hj => hR1.ok (by simpa using hj)
              refine S_nil (hK35 _ _ (V_keep [0, 6, 8, 9] (by simp only [proj, lk, reduceIte, Nat.reduceEqDiff]; rfl) ?_)); clear hK35
              refine V_sr T.mix (by kernel_rfl) (fun K36 hK36 => ?_)
              refine S_mv rfl ?_
              refine S_mv rfl ?_
              refine S_mv rfl ?_
              refine S_nc rfl ?_
              first | refine S_fa0 T.f77_6 rfl ?_ | refine S_fa T.f77_6 rfl ?_
              refine S_ldK T.ag3 rfl (fun K' hK' => ?_)
              simp (disch := omega) only [q0, q1, q2, q3, q4, q5, q6, q7, q8, q9, q10, q11, q12, q13, q14, q15, q16, q17, q18, q19, q20, oP_some, Nat.add_zero]
              refine hK' _ ?_; clear hK' K'
              refine S_bld rfl (T.bld155_0_1_2_3 _ _ _ _) ?_
              refine S_stl T.sz155 rfl rfl rfl rfl (fun j hj => by simp (disch := omega) only [hRok]) ?_
              generalize hh : putsH _ _ _ _ = h9
              have hR9 : B h9 (h.size) #[.string (mkS (oT.drop out.length)), .int .i64 2, .int .i64 ((eT : Nat) : Int), .int .i64 ((rT.at_ : Nat) : Int)] 155 := by rw [← hh]; exact puts_all (hR1) (cs' := #[.string (mkS (oT.drop out.length)), .int .i64 2, .int .i64 ((eT : Nat) : Int), .int .i64 ((rT.at_ : Nat) : Int)]) rfl
              have hEh9 : Ext (fun k => k = h.size) h1 h9 := by rw [← hh]; exact Ext.puts (S := fun k => k = h.size) rfl _ _ _
              clear hh
              refine S_nil (hK36 _ _ (V_keep [6] (by simp only [proj, lk, reduceIte, Nat.reduceEqDiff]; rfl) ?_)); clear hK36
              refine V_ret ?_
              refine hR _ _ (retc1 rfl rfl T.ag155 hR9 (by rfl) ?_)
              first
                | (exfalso; revert g102; first | (revert c98; cases lst <;> simp; done) | (revert c98a; cases lst <;> simp; done))
                | (have hq0 : eT = 0 := (by omega); have hq1 : lst = true := (by assumption); obtain ⟨hv9, rs9⟩ := fnT.done hfit hq0 hq1; obtain ⟨n1, n2, _, _⟩ := fnT.nx (l := lst) hfit; exact ⟨_, _, _, _, by rw [hv9], sw1.ext hEh9 (fun z w e => by have h9 := sw.lt w; omega), rs9, by rw [n2]; exact hxT, fun _ _ => fnT.pz, (hET.trans hEh1).step hEh9 (fun z hz e => by omega)⟩)
                | (have hq0 : eT = 0 ∨ eT = 4 := (by omega); have hq1 : lst = false := (by cases lst; (rfl); (simp at *)); obtain ⟨hv9, rs9⟩ := fnT.more hfit hq0 hq1; obtain ⟨n1, n2, _, _⟩ := fnT.nx (l := lst) hfit; exact ⟨_, _, _, _, by rw [hv9], swT.ext hEh9 (fun z w e => by have h9 := sw.lt w; omega), rs9, by rw [n2]; exact hxT, fun _ _ => fnT.pz, hET.step hEh9 (fun z hz e => by omega)⟩)
                | (have hq0 : eT ≠ 0 := (by omega); have hq1 : lst = true ∨ eT ≠ 4 := (by first | exact .inr (by omega) | (left; cases lst; (simp at *); (rfl))); obtain ⟨hv9, rs9⟩ := fnT.fail hfit hq0 hq1; obtain ⟨n1, n2, _, _⟩ := fnT.nx (l := lst) hfit; exact ⟨_, _, _, _, by rw [hv9], sw1.ext hEh9 (fun z w e => by have h9 := sw.lt w; omega), rs9, by rw [n2]; exact hxT, fun _ _ => fnT.pz, (hET.trans hEh1).step hEh9 (fun z hz e => by omega)⟩)
        · skip
          refine S_gf rfl ?_
          refine S_pf rfl rfl ?_
          refine S_nil (hK26 _ _ (V_keep [0, 2, 6, 8, 9, 85] (by simp only [proj, lk, reduceIte, Nat.reduceEqDiff]; rfl) ?_)); clear hK26
          refine V_condf rfl ?_
          refine V_skipk [0, 2, 6, 8, 9] (by simp only [proj, lk, reduceIte, Nat.reduceEqDiff]; rfl) ?_
          refine hK25 _ _ ?_; clear hK25
          refine V_seq (fun K37 hK37 => ?_)
          refine V_sr T.mix (by kernel_rfl) (fun K38 hK38 => ?_)
          refine S_mv rfl ?_
          refine S_notb rfl ?_
          refine S_mv rfl ?_
          refine S_decb (fun g102b => ?_) (fun g102b => ?_)
          · skip
            refine S_gt rfl ?_
            refine S_mv rfl ?_
            refine S_gt rfl ?_
            refine S_bin rfl rfl rfl ?_
            refine S_gt rfl ?_
            refine S_mv rfl ?_
            refine S_dec (fun g102c => ?_) (fun g102c => ?_)
            · skip
              refine S_gf rfl ?_
              refine S_gf rfl ?_
              refine S_gt rfl ?_
              refine S_pt rfl rfl ?_
              refine S_pt rfl rfl ?_
              refine S_nil (hK38 _ _ (V_keep [0, 6, 8, 9, 100] (by simp only [proj, lk, reduceIte, Nat.reduceEqDiff]; rfl) ?_)); clear hK38
              refine V_condt rfl ?_
              refine V_sr T.mix (by kernel_rfl) (fun K39 hK39 => ?_)
              refine S_mv rfl ?_
              refine S_bld rfl (T.bld155_0_1 _ _) ?_
              refine S_stl T.sz155 rfl rfl rfl rfl (fun j hj => by simp (disch := omega) only [hRok]) ?_
              generalize hh : putsH _ _ _ _ = h9
              have hR9 : B h9 (h.size) #[.string (mkS (oT.drop out.length)), .int .i64 0, .int .i64 0, .int .i64 0] 155 := by rw [← hh]; exact puts_all (hRT) (cs' := #[.string (mkS (oT.drop out.length)), .int .i64 0, .int .i64 0, .int .i64 0]) rfl
              have hEh9 : Ext (fun k => k = h.size) hT h9 := by rw [← hh]; exact Ext.puts (S := fun k => k = h.size) rfl _ _ _
              clear hh
              refine S_nil (hK39 _ _ (V_keep [6] (by simp only [proj, lk, reduceIte, Nat.reduceEqDiff]; rfl) ?_)); clear hK39
              refine V_ret ?_
              refine hR _ _ (retc1 rfl rfl T.ag155 hR9 (by rfl) ?_)
              first
                | (exfalso; revert g102; first | (revert c98; cases lst <;> simp; done) | (revert c98a; cases lst <;> simp; done))
                | (have hq0 : eT = 0 := (by omega); have hq1 : lst = true := (by assumption); obtain ⟨hv9, rs9⟩ := fnT.done hfit hq0 hq1; obtain ⟨n1, n2, _, _⟩ := fnT.nx (l := lst) hfit; exact ⟨_, _, _, _, by rw [hv9], sw1.ext hEh9 (fun z w e => by have h9 := sw.lt w; omega), rs9, by rw [n2]; exact hxT, fun _ _ => fnT.pz, (hET.trans hEh1).step hEh9 (fun z hz e => by omega)⟩)
                | (have hq0 : eT = 0 ∨ eT = 4 := (by omega); have hq1 : lst = false := (by cases lst; (rfl); (simp at *)); obtain ⟨hv9, rs9⟩ := fnT.more hfit hq0 hq1; obtain ⟨n1, n2, _, _⟩ := fnT.nx (l := lst) hfit; exact ⟨_, _, _, _, by rw [hv9], swT.ext hEh9 (fun z w e => by have h9 := sw.lt w; omega), rs9, by rw [n2]; exact hxT, fun _ _ => fnT.pz, hET.step hEh9 (fun z hz e => by omega)⟩)
                | (have hq0 : eT ≠ 0 := (by omega); have hq1 : lst = true ∨ eT ≠ 4 := (by first | exact .inr (by omega) | (left; cases lst; (simp at *); (rfl))); obtain ⟨hv9, rs9⟩ := fnT.fail hfit hq0 hq1; obtain ⟨n1, n2, _, _⟩ := fnT.nx (l := lst) hfit; exact ⟨_, _, _, _, by rw [hv9], sw1.ext hEh9 (fun z w e => by have h9 := sw.lt w; omega), rs9, by rw [n2]; exact hxT, fun _ _ => fnT.pz, (hET.trans hEh1).step hEh9 (fun z hz e => by omega)⟩)
            · skip
              refine S_gt rfl ?_
              refine S_mv rfl ?_
              refine S_gt rfl ?_
              refine S_bin rfl rfl rfl ?_
              refine S_gt rfl ?_
              refine S_pf rfl rfl ?_
              refine S_pt rfl rfl ?_
              refine S_nil (hK38 _ _ (V_keep [0, 6, 8, 9, 100] (by simp only [proj, lk, reduceIte, Nat.reduceEqDiff]; rfl) ?_)); clear hK38
              refine V_condp rfl (fun c102a => ?_) (fun c102a => ?_)
              · skip
                refine V_sr T.mix (by kernel_rfl) (fun K40 hK40 => ?_)
                refine S_mv rfl ?_
                refine S_bld rfl (T.bld155_0_1 _ _) ?_
                refine S_stl T.sz155 rfl rfl rfl rfl (fun j hj => by simp (disch := omega) only [hRok]) ?_
                generalize hh : putsH _ _ _ _ = h9
                have hR9 : B h9 (h.size) #[.string (mkS (oT.drop out.length)), .int .i64 0, .int .i64 0, .int .i64 0] 155 := by rw [← hh]; exact puts_all (hRT) (cs' := #[.string (mkS (oT.drop out.length)), .int .i64 0, .int .i64 0, .int .i64 0]) rfl
                have hEh9 : Ext (fun k => k = h.size) hT h9 := by rw [← hh]; exact Ext.puts (S := fun k => k = h.size) rfl _ _ _
                clear hh
                refine S_nil (hK40 _ _ (V_keep [6] (by simp only [proj, lk, reduceIte, Nat.reduceEqDiff]; rfl) ?_)); clear hK40
                refine V_ret ?_
                refine hR _ _ (retc1 rfl rfl T.ag155 hR9 (by rfl) ?_)
                first
                  | (exfalso; revert g102; first | (revert c98; cases lst <;> simp; done) | (revert c98a; cases lst <;> simp; done))
                  | (have hq0 : eT = 0 := (by omega); have hq1 : lst = true := (by assumption); obtain ⟨hv9, rs9⟩ := fnT.done hfit hq0 hq1; obtain ⟨n1, n2, _, _⟩ := fnT.nx (l := lst) hfit; exact ⟨_, _, _, _, by rw [hv9], sw1.ext hEh9 (fun z w e => by have h9 := sw.lt w; omega), rs9, by rw [n2]; exact hxT, fun _ _ => fnT.pz, (hET.trans hEh1).step hEh9 (fun z hz e => by omega)⟩)
                  | (have hq0 : eT = 0 ∨ eT = 4 := (by omega); have hq1 : lst = false := (by cases lst; (rfl); (simp at *)); obtain ⟨hv9, rs9⟩ := fnT.more hfit hq0 hq1; obtain ⟨n1, n2, _, _⟩ := fnT.nx (l := lst) hfit; exact ⟨_, _, _, _, by rw [hv9], swT.ext hEh9 (fun z w e => by have h9 := sw.lt w; omega), rs9, by rw [n2]; exact hxT, fun _ _ => fnT.pz, hET.step hEh9 (fun z hz e => by omega)⟩)
                  | (have hq0 : eT ≠ 0 := (by omega); have hq1 : lst = true ∨ eT ≠ 4 := (by first | exact .inr (by omega) | (left; cases lst; (simp at *); (rfl))); obtain ⟨hv9, rs9⟩ := fnT.fail hfit hq0 hq1; obtain ⟨n1, n2, _, _⟩ := fnT.nx (l := lst) hfit; exact ⟨_, _, _, _, by rw [hv9], sw1.ext hEh9 (fun z w e => by have h9 := sw.lt w; omega), rs9, by rw [n2]; exact hxT, fun _ _ => fnT.pz, (hET.trans hEh1).step hEh9 (fun z hz e => by omega)⟩)
              · skip
                refine V_skipk [0, 6, 8, 9] (by simp only [proj, lk, reduceIte, Nat.reduceEqDiff]; rfl) ?_
                refine hK37 _ _ ?_; clear hK37
                refine V_sr T.mix (by kernel_rfl) (fun K41 hK41 => ?_)
                refine S_mv rfl ?_
                refine S_nc rfl ?_
                first | refine S_fa0 T.f77_4 rfl ?_ | refine S_fa T.f77_4 rfl ?_
                refine S_st T.sz3 rfl rfl rfl rfl (by simp (disch := omega) only [dok]) ?_
                generalize hh : putH _ _ _ = h1
                have sw1 := swT.sx (h' := h1) (r' := { rT with ph := 10 }) (by rw [← hh]; exact (swT.x.put 4 _).cong (by simp [dcs])) (by rw [← hh]; exact Ext.put _ _ rfl) rfl rfl rfl
                have hEh1 : Ext (WTs W) hT h1 := by rw [← hh]; exact Ext.put _ _ wd0
                clear hh
                try clear q0 q1 q2 q3 q4 q5 q6 q7 q8 q9 q10 q11 q12 q13 q14 q15 q16 q17 q18 q19 q20 dok
                obtain ⟨q0, q1, q2, q3, q4, q5, q6, q7, q8, q9, q10, q11, q12, q13, q14, q15, q16, q17, q18, q19, q20⟩ := dq (sw1.x)
                have dok := dok_ (sw1.x)
                try simp only [] at q0 q1 q2 q3 q4 q5 q6 q7 q8 q9 q10 q11 q12 q13 q14 q15 q16 q17 q18 q19 q20
                have hR1 := (hRT).ext hEh1 (fun w => by have h9 := sw.lt w; omega)
                try clear hRok
                have hRok : ∀ j, j < 4 → okPut h1 ⟨h.size, j, none⟩ = true := fun j hj => hR1.ok (by simpa using hj)
                refine S_nil (hK41 _ _ (V_keep [0, 6, 8, 9] (by simp only [proj, lk, reduceIte, Nat.reduceEqDiff]; rfl) ?_)); clear hK41
                refine V_sr T.mix (by kernel_rfl) (fun K42 hK42 => ?_)
                refine S_mv rfl ?_
                refine S_mv rfl ?_
                refine S_mv rfl ?_
                refine S_nc rfl ?_
                first | refine S_fa0 T.f77_6 rfl ?_ | refine S_fa T.f77_6 rfl ?_
                refine S_ldK T.ag3 rfl (fun K' hK' => ?_)
                simp (disch := omega) only [q0, q1, q2, q3, q4, q5, q6, q7, q8, q9, q10, q11, q12, q13, q14, q15, q16, q17, q18, q19, q20, oP_some, Nat.add_zero]
                refine hK' _ ?_; clear hK' K'
                refine S_bld rfl (T.bld155_0_1_2_3 _ _ _ _) ?_
                refine S_stl T.sz155 rfl rfl rfl rfl (fun j hj => by simp (disch := omega) only [hRok]) ?_
                generalize hh : putsH _ _ _ _ = h9
                have hR9 : B h9 (h.size) #[.string (mkS (oT.drop out.length)), .int .i64 2, .int .i64 ((eT : Nat) : Int), .int .i64 ((rT.at_ : Nat) : Int)] 155 := by rw [← hh]; exact puts_all (hR1) (cs' := #[.string (mkS (oT.drop out.length)), .int .i64 2, .int .i64 ((eT : Nat) : Int), .int .i64 ((rT.at_ : Nat) : Int)]) rfl
                have hEh9 : Ext (fun k => k = h.size) h1 h9 := by rw [← hh]; exact Ext.puts (S := fun k => k = h.size) rfl _ _ _
                clear hh
                refine S_nil (hK42 _ _ (V_keep [6] (by simp only [proj, lk, reduceIte, Nat.reduceEqDiff]; rfl) ?_)); clear hK42
                refine V_ret ?_
                refine hR _ _ (retc1 rfl rfl T.ag155 hR9 (by rfl) ?_)
                first
                  | (exfalso; revert g102; first | (revert c98; cases lst <;> simp; done) | (revert c98a; cases lst <;> simp; done))
                  | (have hq0 : eT = 0 := (by omega); have hq1 : lst = true := (by assumption); obtain ⟨hv9, rs9⟩ := fnT.done hfit hq0 hq1; obtain ⟨n1, n2, _, _⟩ := fnT.nx (l := lst) hfit; exact ⟨_, _, _, _, by rw [hv9], sw1.ext hEh9 (fun z w e => by have h9 := sw.lt w; omega), rs9, by rw [n2]; exact hxT, fun _ _ => fnT.pz, (hET.trans hEh1).step hEh9 (fun z hz e => by omega)⟩)
                  | (have hq0 : eT = 0 ∨ eT = 4 := (by omega); have hq1 : lst = false := (by cases lst; (rfl); (simp at *)); obtain ⟨hv9, rs9⟩ := fnT.more hfit hq0 hq1; obtain ⟨n1, n2, _, _⟩ := fnT.nx (l := lst) hfit; exact ⟨_, _, _, _, by rw [hv9], swT.ext hEh9 (fun z w e => by have h9 := sw.lt w; omega), rs9, by rw [n2]; exact hxT, fun _ _ => fnT.pz, hET.step hEh9 (fun z hz e => by omega)⟩)
                  | (have hq0 : eT ≠ 0 := (by omega); have hq1 : lst = true ∨ eT ≠ 4 := (by first | exact .inr (by omega) | (left; cases lst; (simp at *); (rfl))); obtain ⟨hv9, rs9⟩ := fnT.fail hfit hq0 hq1; obtain ⟨n1, n2, _, _⟩ := fnT.nx (l := lst) hfit; exact ⟨_, _, _, _, by rw [hv9], sw1.ext hEh9 (fun z w e => by have h9 := sw.lt w; omega), rs9, by rw [n2]; exact hxT, fun _ _ => fnT.pz, (hET.trans hEh1).step hEh9 (fun z hz e => by omega)⟩)
          · skip
            refine S_gf rfl ?_
            refine S_gf rfl ?_
            refine S_gf rfl ?_
            refine S_gf rfl ?_
            refine S_gf rfl ?_
            refine S_gf rfl ?_
            refine S_pf rfl rfl ?_
            refine S_nil (hK38 _ _ (V_keep [0, 6, 8, 9, 100] (by simp only [proj, lk, reduceIte, Nat.reduceEqDiff]; rfl) ?_)); clear hK38
            refine V_condf rfl ?_
            refine V_skipk [0, 6, 8, 9] (by simp only [proj, lk, reduceIte, Nat.reduceEqDiff]; rfl) ?_
            refine hK37 _ _ ?_; clear hK37
            refine V_sr T.mix (by kernel_rfl) (fun K43 hK43 => ?_)
            refine S_mv rfl ?_
            refine S_nc rfl ?_
            first | refine S_fa0 T.f77_4 rfl ?_ | refine S_fa T.f77_4 rfl ?_
            refine S_st T.sz3 rfl rfl rfl rfl (by simp (disch := omega) only [dok]) ?_
            generalize hh : putH _ _ _ = h1
            have sw1 := swT.sx (h' := h1) (r' := { rT with ph := 10 }) (by rw [← hh]; exact (swT.x.put 4 _).cong (by simp [dcs])) (by rw [← hh]; exact Ext.put _ _ rfl) rfl rfl rfl
            have hEh1 : Ext (WTs W) hT h1 := by rw [← hh]; exact Ext.put _ _ wd0
            clear hh
            try clear q0 q1 q2 q3 q4 q5 q6 q7 q8 q9 q10 q11 q12 q13 q14 q15 q16 q17 q18 q19 q20 dok
            obtain ⟨q0, q1, q2, q3, q4, q5, q6, q7, q8, q9, q10, q11, q12, q13, q14, q15, q16, q17, q18, q19, q20⟩ := dq (sw1.x)
            have dok := dok_ (sw1.x)
            try simp only [] at q0 q1 q2 q3 q4 q5 q6 q7 q8 q9 q10 q11 q12 q13 q14 q15 q16 q17 q18 q19 q20
            have hR1 := (hRT).ext hEh1 (fun w => by have h9 := sw.lt w; omega)
            try clear hRok
            have hRok : ∀ j, j < 4 → okPut h1 ⟨h.size, j, none⟩ = true := fun j hj => hR1.ok (by simpa using hj)
            refine S_nil (hK43 _ _ (V_keep [0, 6, 8, 9] (by simp only [proj, lk, reduceIte, Nat.reduceEqDiff]; rfl) ?_)); clear hK43
            refine V_sr T.mix (by kernel_rfl) (fun K44 hK44 => ?_)
            refine S_mv rfl ?_
            refine S_mv rfl ?_
            refine S_mv rfl ?_
            refine S_nc rfl ?_
            first | refine S_fa0 T.f77_6 rfl ?_ | refine S_fa T.f77_6 rfl ?_
            refine S_ldK T.ag3 rfl (fun K' hK' => ?_)
            simp (disch := omega) only [q0, q1, q2, q3, q4, q5, q6, q7, q8, q9, q10, q11, q12, q13, q14, q15, q16, q17, q18, q19, q20, oP_some, Nat.add_zero]
            refine hK' _ ?_; clear hK' K'
            refine S_bld rfl (T.bld155_0_1_2_3 _ _ _ _) ?_
            refine S_stl T.sz155 rfl rfl rfl rfl (fun j hj => by simp (disch := omega) only [hRok]) ?_
            generalize hh : putsH _ _ _ _ = h9
            have hR9 : B h9 (h.size) #[.string (mkS (oT.drop out.length)), .int .i64 2, .int .i64 ((eT : Nat) : Int), .int .i64 ((rT.at_ : Nat) : Int)] 155 := by rw [← hh]; exact puts_all (hR1) (cs' := #[.string (mkS (oT.drop out.length)), .int .i64 2, .int .i64 ((eT : Nat) : Int), .int .i64 ((rT.at_ : Nat) : Int)]) rfl
            have hEh9 : Ext (fun k => k = h.size) h1 h9 := by rw [← hh]; exact Ext.puts (S := fun k => k = h.size) rfl _ _ _
            clear hh
            refine S_nil (hK44 _ _ (V_keep [6] (by simp only [proj, lk, reduceIte, Nat.reduceEqDiff]; rfl) ?_)); clear hK44
            refine V_ret ?_
            refine hR _ _ (retc1 rfl rfl T.ag155 hR9 (by rfl) ?_)
            first
              | (exfalso; revert g102; first | (revert c98; cases lst <;> simp; done) | (revert c98a; cases lst <;> simp; done))
              | (have hq0 : eT = 0 := (by omega); have hq1 : lst = true := (by assumption); obtain ⟨hv9, rs9⟩ := fnT.done hfit hq0 hq1; obtain ⟨n1, n2, _, _⟩ := fnT.nx (l := lst) hfit; exact ⟨_, _, _, _, by rw [hv9], sw1.ext hEh9 (fun z w e => by have h9 := sw.lt w; omega), rs9, by rw [n2]; exact hxT, fun _ _ => fnT.pz, (hET.trans hEh1).step hEh9 (fun z hz e => by omega)⟩)
              | (have hq0 : eT = 0 ∨ eT = 4 := (by omega); have hq1 : lst = false := (by cases lst; (rfl); (simp at *)); obtain ⟨hv9, rs9⟩ := fnT.more hfit hq0 hq1; obtain ⟨n1, n2, _, _⟩ := fnT.nx (l := lst) hfit; exact ⟨_, _, _, _, by rw [hv9], swT.ext hEh9 (fun z w e => by have h9 := sw.lt w; omega), rs9, by rw [n2]; exact hxT, fun _ _ => fnT.pz, hET.step hEh9 (fun z hz e => by omega)⟩)
              | (have hq0 : eT ≠ 0 := (by omega); have hq1 : lst = true ∨ eT ≠ 4 := (by first | exact .inr (by omega) | (left; cases lst; (simp at *); (rfl))); obtain ⟨hv9, rs9⟩ := fnT.fail hfit hq0 hq1; obtain ⟨n1, n2, _, _⟩ := fnT.nx (l := lst) hfit; exact ⟨_, _, _, _, by rw [hv9], sw1.ext hEh9 (fun z w e => by have h9 := sw.lt w; omega), rs9, by rw [n2]; exact hxT, fun _ _ => fnT.pz, (hET.trans hEh1).step hEh9 (fun z hz e => by omega)⟩)
end Go.Proofs.Qxb6500404aGreat
