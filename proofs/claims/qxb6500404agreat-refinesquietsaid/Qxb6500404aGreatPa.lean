import Derived.Test.Qxb6500404aGreatOd
import Derived.Test.Qxb6500404aGreatNf
set_option linter.unusedVariables false
set_option linter.unusedSimpArgs false
namespace Go.Proofs.Qxb6500404aGreat
open Go.Eng Go.Bits Go.Blk HufW

/-! ### the specification decoder's heap -/
def OB (h : Heap) (a : Option Addr) (cap : Nat) (out : List Int) : Prop := OwnR 0 h a out.length cap (u8s out) 5 1
theorem OB.nil (h : Heap) : OB h none 0 [] := OwnR.nil _ _ _ _
theorem u8s_snoc (l : List Int) (x : Int) : u8s (l ++ [x]) = u8s l ++ [.int .u8 x] := by simp [u8s]
theorem OB.ext {h h' : Heap} {a : Option Addr} {cap : Nat} {out : List Int} {S : Nat → Prop} (o : OB h a cap out) (he : Ext S h h') (hS : ∀ b, blkA a = some b → ¬ S b) : OB h' a cap out := OwnR.ext o he (fun b e => hS b (by rw [e]; rfl))
theorem OB.lt {h : Heap} {a : Option Addr} {cap b : Nat} {out : List Int} (o : OB h a cap out) (e : blkA a = some b) : b < h.size := (OwnR.blk2 o e).2
theorem OB.app {h : Heap} {a : Option Addr} {cap : Nat} {out : List Int} {x : Int} (o : OwnR 0 h a (out.length + 1) cap (u8s out ++ [.int .u8 x]) 5 1) : OB h a cap (out ++ [x]) := by
  unfold OB; rw [u8s_snoc, List.length_append]; exact o
theorem OB.str {h : Heap} {a : Option Addr} {cap : Nat} {out : List Int} (o : OB h a cap out) : srcV h 1 out.length (.slice a out.length cap) = some (u8s out) := OwnR.cells o
theorem OB.get {h : Heap} {a : Option Addr} {cap : Nat} {out : List Int} (o : OB h a cap out) (hl : 0 < out.length) : ∃ b, a = some ⟨b, 0, none⟩ ∧ ∀ j, j < out.length → cellH h ⟨b, j, none⟩ = some (.int .u8 (out.getD j 0)) := by
  obtain ⟨b, h1, _, _, h2, _⟩ := OwnR.some o hl
  exact ⟨b, h1, fun j hj => by rw [h2 j (by simpa [u8s] using hj)]; simp [u8s, hj]⟩
def Hot (M : Nat) (ta oa : Option Addr) (b : Nat) : Prop := b = M ∨ blkA ta = some b ∨ blkA oa = some b
structure DW (h : Heap) (M : Nat) (ta : Option Addr) (tc : Nat) (s : TS) (oa : Option Addr) (oc : Nat) (out : List Int) : Prop where
  mt : BitW.MT h M ta tc s
  ob : OB h oa oc out
  d1 : blkA oa ≠ some M
  d2 : ∀ b, blkA oa = some b → blkA ta ≠ some b
  ln : out.length ≤ 256
structure DX (M : Nat) (h h' : Heap) (ta ta' oa oa' : Option Addr) : Prop where
  e : Ext (Hot M ta oa) h h'
  t : ∀ b, blkA ta' = some b → blkA ta = some b ∨ h.size ≤ b
  o : ∀ b, blkA oa' = some b → blkA oa = some b ∨ h.size ≤ b
theorem DX.refl (M : Nat) (h : Heap) (ta oa : Option Addr) : DX M h h ta ta oa oa := ⟨Ext.refl _ _, fun _ e => .inl e, fun _ e => .inl e⟩
theorem DX.cold {M : Nat} {h h' : Heap} {ta ta' oa oa' : Option Addr} (x : DX M h h' ta ta' oa oa') {b : Nat} (hb : b < h.size) (hc : ¬ Hot M ta oa b) : ¬ Hot M ta' oa' b := fun e => by
  rcases e with e | e | e
  · exact hc (.inl e)
  · rcases x.t b e with q | q
    · exact hc (.inr (.inl q))
    · omega
  · rcases x.o b e with q | q
    · exact hc (.inr (.inr q))
    · omega
theorem DX.trans {M : Nat} {h h1 h2 : Heap} {ta t1 t2 oa o1 o2 : Option Addr} (x : DX M h h1 ta t1 oa o1) (y : DX M h1 h2 t1 t2 o1 o2) : DX M h h2 ta t2 oa o2 := by
  have hz := x.e.1
  refine ⟨x.e.step y.e fun b hb hs => Classical.not_not.1 fun hn => x.cold hb hn hs, fun b e => ?_, fun b e => ?_⟩
  · rcases y.t b e with q | q
    · exact x.t b q
    · exact .inr (by omega)
  · rcases y.o b e with q | q
    · exact x.o b q
    · exact .inr (by omega)
theorem DW.mex {h h' : Heap} {M : Nat} {ta ta' : Option Addr} {tc tc' : Nat} {s s' : TS} {oa : Option Addr} {oc : Nat} {out : List Int} (d : DW h M ta tc s oa oc out) (mt : BitW.MT h' M ta' tc' s') (mx : BitW.MEx M h h' ta ta') : DW h' M ta' tc' s' oa oc out ∧ DX M h h' ta ta' oa oa := by
  refine ⟨⟨mt, d.ob.ext mx.1 (fun b e z => ?_), d.d1, fun b e z => ?_, d.ln⟩, mx.1.mono fun b e => ?_, mx.2, fun b e => .inl e⟩
  · rcases z with z | z
    · exact d.d1 (by rw [e, z])
    · exact d.d2 b e z
  · rcases mx.2 b z with q | q
    · exact d.d2 b e q
    · have := d.ob.lt e; omega
  · rcases e with e | e
    · exact .inl e
    · exact .inr (.inl e)
theorem MT.mlt {h : Heap} {M : Nat} {ta : Option Addr} {tc : Nat} {s : TS} (m : BitW.MT h M ta tc s) : M < h.size := m.t.lt
theorem MT.tlt {h : Heap} {M : Nat} {ta : Option Addr} {tc b : Nat} {s : TS} (m : BitW.MT h M ta tc s) (e : blkA ta = some b) : b < h.size := (OwnR.blk2 m.bb e).2
theorem DW.app {h h' : Heap} {M : Nat} {ta : Option Addr} {tc : Nat} {s : TS} {oa oa' : Option Addr} {oc oc' : Nat} {out out' : List Int} (d : DW h M ta tc s oa oc out) (ob : OB h' oa' oc' out') (he : Ext (fun b => blkA oa = some b) h h') (hb : blkA oa' = blkA oa ∨ ∃ b, blkA oa' = some b ∧ h.size ≤ b) (hl : out'.length ≤ 256) : DW h' M ta tc s oa' oc' out' ∧ DX M h h' ta ta oa oa' := by
  have hM := MT.mlt d.mt
  refine ⟨⟨d.mt.ext he d.d1 (fun b e z => d.d2 b z e), ob, fun e => ?_, fun b e z => ?_, hl⟩, he.mono fun b e => .inr (.inr e), fun b e => .inl e, fun b e => ?_⟩
  · rcases hb with q | ⟨b, q, hq⟩
    · exact d.d1 (q ▸ e)
    · rw [q] at e; cases e; omega
  · rcases hb with q | ⟨c, q, hq⟩
    · exact d.d2 b (q ▸ e) z
    · have := MT.tlt d.mt z
      rw [q] at e; cases e; omega
  · rcases hb with q | ⟨c, q, hq⟩
    · exact .inl (q ▸ e)
    · rw [q] at e; cases e; exact .inr hq
/-- elsewhere something new -/
theorem DW.new {h h' : Heap} {M : Nat} {ta : Option Addr} {tc : Nat} {s : TS} {oa : Option Addr} {oc : Nat} {out : List Int} {S : Nat → Prop} (d : DW h M ta tc s oa oc out) (he : Ext S h h') (hS : ∀ b, Hot M ta oa b → ¬ S b) : DW h' M ta tc s oa oc out :=
  ⟨d.mt.ext he (hS _ (.inl rfl)) (fun b e => hS b (.inr (.inl e))), d.ob.ext he (fun b e => hS b (.inr (.inr e))), d.d1, d.d2, d.ln⟩
theorem DW.lt {h : Heap} {M : Nat} {ta : Option Addr} {tc : Nat} {s : TS} {oa : Option Addr} {oc : Nat} {out : List Int} (d : DW h M ta tc s oa oc out) {b : Nat} (e : Hot M ta oa b) : b < h.size := by
  rcases e with e | e | e
  · rw [e]; exact MT.mlt d.mt
  · exact MT.tlt d.mt e
  · exact d.ob.lt e
theorem DX.new {M : Nat} {h h' : Heap} {ta oa : Option Addr} {S : Nat → Prop} (he : Ext S h h') (hS : ∀ b, b < h.size → ¬ S b) : DX M h h' ta ta oa oa :=
  ⟨(Ext.refl _ h).step he (fun b hb e => absurd e (hS b hb)), fun b e => .inl e, fun b e => .inl e⟩
theorem stoL_go {m : Nat} {s : TS} {out : List Int} {pl : Nat} (h : skipE s 8 = 0) (h2 : ¬ 256 ≤ out.length) : stoL (m + 1) s out pl = stoL m (skipS s 8) (out ++ [(takeV s 8 : Int)]) s.p := by
  rw [stoL, if_neg (by omega), if_neg h2]
theorem stoL_no {m : Nat} {s : TS} {out : List Int} {pl e2 : Nat} (he : e2 = if skipE s 8 = 0 ∧ 256 ≤ out.length then 10 else skipE s 8) (h : e2 ≠ 0) : stoL (m + 1) s out pl = ⟨out, e2, s.p, skipS s 8⟩ := by
  rw [stoL]
  by_cases q : skipE s 8 = 0
  · rw [if_neg (by omega)]
    by_cases q2 : 256 ≤ out.length
    · rw [if_pos q2, he, if_pos ⟨q, q2⟩]
    · rw [if_neg (fun z => q2 z.2)] at he; omega
  · rw [if_pos q, he, if_neg (fun z => q z.1), BitW.skipS_ne q]
theorem getD_ups (L : List Nat) (x : Nat) : (fun j => (L ++ [x]).getD j 0) = Huf.ups (fun j => L.getD j 0) L.length x := by
  funext j
  unfold Huf.ups
  by_cases e : j = L.length
  · rw [if_pos e, e]; simp
  · rw [if_neg e]
    rcases Nat.lt_or_ge j L.length with q | q
    · simp [List.getD_eq_getElem?_getD, List.getElem?_append_left q]
    · show (L ++ [x]).getD j 0 = L.getD j 0
      rw [List.getD_eq_getElem?_getD, List.getElem?_eq_none (by simp; omega), List.getD_eq_getElem?_getD, List.getElem?_eq_none q]
theorem mt_var {h : Heap} {M : Nat} {ta : Option Addr} {tc : Nat} {s : TS} (m : BitW.MT h M ta tc s) : ∃ s', s' = s ∧ BitW.MT h M ta tc s' := ⟨s, rfl, m⟩

theorem mex_put {M : Nat} {h0 h h2 : Heap} {ta tak : Option Addr} {b : Nat} (e : BitW.MEx M h0 h ta tak) (he : Ext (fun z => z = b) h h2) (hb : h0.size ≤ b) : BitW.MEx M h0 h2 ta tak := ⟨e.1.step he (fun z hz e => by omega), e.2⟩
theorem rep_ups (L : List Nat) (k v : Nat) : (fun j => (L ++ List.replicate (k + 1) v).getD j 0) = Huf.ups (fun j => (L ++ List.replicate k v).getD j 0) (L.length + k) v := by
  rw [List.replicate_succ', ← List.append_assoc, getD_ups, List.length_append, List.length_replicate]
def KOb (A : Nat) (la cb : Option Addr) (b : Nat) : Prop := b = A ∨ blkA la = some b ∨ blkA cb = some b
theorem MK.ext' {h h' : Heap} {A : Nat} {la cb : Option Addr} {lf : Nat → Nat} {N : Nat} {S : Nat → Prop} (k : MK h A la cb lf N) (he : Ext S h h') (hS : ∀ b, KOb A la cb b → ¬ S b) : MK h' A la cb lf N := k.ext he (hS _ (.inl rfl)) (fun b e => hS b (.inr (.inl e))) (fun b e => hS b (.inr (.inr e)))
theorem MK.lt' {h : Heap} {A : Nat} {la cb : Option Addr} {lf : Nat → Nat} {N b : Nat} (k : MK h A la cb lf N) (e : KOb A la cb b) : b < h.size := by
  rcases e with e | e | e
  · rw [e]; exact k.t.lt
  · exact k.l.lt e
  · exact k.c.lt e
set_option maxHeartbeats 1600000 in
theorem mstored_spec (h : Heap) (M : Nat) (ta : Option Addr) (tc : Nat) (s : TS) (oa : Option Addr) (oc : Nat) (out : List Int) (dw : DW h M ta tc s oa oc out) :
    FC Tryz.prog 87 (#[.pointer (some ⟨M, 0, none⟩), .slice oa out.length oc] : Array Value) h fun rv h' => ∃ ta' tc' oa' oc', rv = .tuple #[.slice oa' (stoF s out).out.length oc', .int .i64 (((stoF s out).e : Nat) : Int), .int .i64 (((stoF s out).pl : Nat) : Int)] ∧ DW h' M ta' tc' (stoF s out).s oa' oc' (stoF s out).out ∧ DX M h h' ta ta' oa oa' := by
  refine FC_of [(0, .pointer (some ⟨M, 0, none⟩)), (1, .slice oa out.length oc)] Tryz.func87 rfl Tryz.ntmps87 (by simp) rfl (fun R hR => ?_)
  refine V_sr T.mix (by kernel_rfl) (fun K1 hK1 => ?_)
  refine S_as rfl ?_
  refine S_as rfl ?_
  refine S_as rfl ?_
  refine S_nil (hK1 _ _ (V_keep [0, 1] (by simp only [proj, lk, reduceIte, Nat.reduceEqDiff]; rfl) ?_)); clear hK1
  refine V_sr T.mix (by kernel_rfl) (fun K2 hK2 => ?_)
  refine S_mv rfl ?_
  refine S_call T.hb90 rfl ?_
  refine FC.mono (BitW.msync_spec h M ta tc s dw.mt) ?_
  rintro v' g1 ⟨rfl, ta0, tc0, mt0, mx0⟩
  obtain ⟨s0, hs0, mt0⟩ := mt_var mt0
  obtain ⟨dw0, dx0⟩ := dw.mex mt0 mx0
  refine S_nil (hK2 _ _ (V_keep [0, 1] (by simp only [proj, lk, reduceIte, Nat.reduceEqDiff]; rfl) ?_)); clear hK2
  refine V_sr T.mix (by kernel_rfl) (fun K3 hK3 => ?_)
  refine S_mv rfl ?_
  refine S_call T.hb85 rfl ?_
  refine FC.mono (BitW.mpos_spec g1 M _ _ s0 mt0) ?_
  rintro v' h' ⟨rfl, rfl⟩
  refine S_as rfl ?_
  refine S_nil (hK3 _ _ (V_keep [0, 1, 7] (by simp only [proj, lk, reduceIte, Nat.reduceEqDiff]; rfl) ?_)); clear hK3
  refine V_sr T.mix (by kernel_rfl) (fun K4 hK4 => ?_)
  refine S_mv rfl ?_
  refine S_call T.hb86 rfl ?_
  refine FC.mono (BitW.mtake_spec g1 M _ _ s0 mt0 (16)) ?_
  rintro v' g2 ⟨hv', tan, tcn, mtn, mxn⟩
  obtain ⟨en, hen⟩ : ∃ x, x = skipE s0 (16) := ⟨_, rfl⟩
  obtain ⟨cn, hcn⟩ : ∃ x, x = takeV s0 (16) := ⟨_, rfl⟩
  obtain ⟨sn, hsn⟩ : ∃ x, x = skipS s0 (16) := ⟨_, rfl⟩
  rw [← hen, ← hcn] at hv'
  rw [← hsn] at mtn
  subst hv'
  obtain ⟨dwn, dxn⟩ := dw0.mex mtn mxn
  have hst : stoF s out = if en ≠ 0 then ⟨out, en, s0.p, s0⟩ else stoL cn sn out s0.p := by unfold stoF; rw [← hs0, ← hen, ← hcn, ← hsn]
  obtain ⟨nn, hnn⟩ : ∃ x, x = cn := ⟨_, rfl⟩
  have hnb : nn < 65536 := by rw [hnn, hcn]; exact take_lt (k := 16) (by omega)
  rw [← hnn]
  refine S_mv rfl ?_
  refine S_ex rfl rfl ?_
  refine S_ex rfl rfl ?_
  refine S_as rfl ?_
  refine S_as rfl ?_
  refine S_nil (hK4 _ _ (V_keep [0, 1, 7, 8, 9] (by simp only [proj, lk, reduceIte, Nat.reduceEqDiff]; rfl) ?_)); clear hK4
  refine V_seq (fun K5 hK5 => ?_)
  refine V_sr T.mix (by kernel_rfl) (fun K6 hK6 => ?_)
  refine S_as rfl ?_
  refine S_nil (hK6 _ _ (V_keep [0, 1, 7, 8, 9, 10] (by simp only [proj, lk, reduceIte, Nat.reduceEqDiff]; rfl) ?_)); clear hK6
  refine V_block ?_
  refine V_loop (fun m l h' => ∃ (k : Nat) (hk : Heap) (tak : Option Addr) (tck : Nat) (sk : TS) (oak : Option Addr) (ock : Nat) (outk : List Int) (ek atk : Nat), ((ek = 0 ∧ k ≤ nn ∧ stoF s out = stoL (nn - k) sk outk atk) ∨ (ek ≠ 0 ∧ stoF s out = ⟨outk, ek, atk, sk⟩)) ∧ (DW hk M tak tck sk oak ock outk) ∧ (DX M h hk ta tak oa oak) ∧ m = nn - k ∧ l = [(0, .pointer (some ⟨M, 0, none⟩)), (1, .slice oak outk.length ock), (7, .int .i64 (atk : Int)), (8, .int .i64 (nn : Int)), (9, .int .i64 (ek : Int)), (10, .int .i64 (k : Int))] ∧ hk = h') _ ⟨0, g2, tan, tcn, sn, oa, oc, out, en, s0.p, by rw [hst]; by_cases q : en = 0; (left; rw [if_neg (by omega)]; exact ⟨q, Nat.zero_le _, by rw [hnn]; rfl⟩); (right; rw [if_pos q]; exact ⟨q, by rw [hsn, BitW.skipS_ne (by rw [← hen]; exact q)]⟩), dwn, dx0.trans dxn, rfl, rfl, rfl⟩ ?_
  rintro m l h' ⟨k, hk, tak, tck, sk, oak, ock, outk, ek, atk, hin, dwk, dxk, rfl, rfl, rfl⟩ K7 hK7
  refine V_seq (fun K8 hK8 => ?_)
  refine V_sr T.mix (by kernel_rfl) (fun K9 hK9 => ?_)
  refine S_cut (K' := fun l h' => ∃ b : Bool, (b = true ↔ (k < nn ∧ ek = 0)) ∧ l = [(0, .pointer (some ⟨M, 0, none⟩)), (1, .slice oak outk.length ock), (7, .int .i64 (atk : Int)), (8, .int .i64 (nn : Int)), (9, .int .i64 (ek : Int)), (10, .int .i64 (k : Int)), (27, .bool b)] ∧ hk = h') ?_ ?_
  · skip
    refine S_mv rfl ?_
    refine S_mv rfl ?_
    refine S_bin rfl rfl rfl ?_
    refine S_mv rfl ?_
    refine S_dec (fun g28 => ?_) (fun g28 => ?_)
    · skip
      refine S_gt rfl ?_
      refine S_mv rfl ?_
      refine S_gt rfl ?_
      refine S_bin rfl rfl rfl ?_
      refine S_pt rfl rfl ?_
      exact S_nilk [0, 1, 7, 8, 9, 10, 27] (by simp only [proj, lk, reduceIte, Nat.reduceEqDiff]; rfl) ⟨_, (by first | (simp only [decide_eq_true_eq]; omega) | (simp; omega)), rfl, rfl⟩
    · skip
      refine S_gf rfl ?_
      refine S_gf rfl ?_
      refine S_pf rfl rfl ?_
      exact S_nilk [0, 1, 7, 8, 9, 10, 27] (by simp only [proj, lk, reduceIte, Nat.reduceEqDiff]; rfl) ⟨_, (by first | (simp only [decide_eq_true_eq]; omega) | (simp; omega)), rfl, rfl⟩
  rintro l h' ⟨b, hb28, rfl, rfl⟩
  refine hK9 _ _ ?_; clear hK9
  refine V_condb rfl (fun c28 => ?_) (fun c28 => ?_)
  · replace c28 := hb28.1 c28
    refine V_skipk [0, 1, 8, 10] (by simp only [proj, lk, reduceIte, Nat.reduceEqDiff]; rfl) ?_
    refine hK8 _ _ ?_; clear hK8
    refine V_seq (fun K11 hK11 => ?_)
    refine V_block ?_
    refine V_sr T.mix (by kernel_rfl) (fun K12 hK12 => ?_)
    refine S_mv rfl ?_
    refine S_call T.hb85 rfl ?_
    refine FC.mono (BitW.mpos_spec hk M _ _ sk dwk.mt) ?_
    rintro v' h' ⟨rfl, rfl⟩
    refine S_as rfl ?_
    refine S_nil (hK12 _ _ (V_keep [0, 1, 7, 8, 10] (by simp only [proj, lk, reduceIte, Nat.reduceEqDiff]; rfl) ?_)); clear hK12
    refine V_sr T.mix (by kernel_rfl) (fun K13 hK13 => ?_)
    refine S_as rfl ?_
    refine S_nil (hK13 _ _ (V_keep [0, 1, 7, 8, 10] (by simp only [proj, lk, reduceIte, Nat.reduceEqDiff]; rfl) ?_)); clear hK13
    refine V_sr T.mix (by kernel_rfl) (fun K14 hK14 => ?_)
    refine S_mv rfl ?_
    refine S_call T.hb86 rfl ?_
    refine FC.mono (BitW.mtake_spec hk M _ _ sk dwk.mt (8)) ?_
    rintro v' h1 ⟨hv', taq, tcq, mtq, mxq⟩
    obtain ⟨eq, heq⟩ : ∃ x, x = skipE sk (8) := ⟨_, rfl⟩
    obtain ⟨cq, hcq⟩ : ∃ x, x = takeV sk (8) := ⟨_, rfl⟩
    obtain ⟨sq, hsq⟩ : ∃ x, x = skipS sk (8) := ⟨_, rfl⟩
    rw [← heq, ← hcq] at hv'
    rw [← hsq] at mtq
    subst hv'
    obtain ⟨dwq, dxq⟩ := dwk.mex mtq mxq
    refine S_mv rfl ?_
    refine S_ex rfl rfl ?_
    refine S_ex rfl rfl ?_
    refine S_as rfl ?_
    refine S_as rfl ?_
    refine S_nil (hK14 _ _ (V_keep [0, 1, 7, 8, 9, 10, 11] (by simp only [proj, lk, reduceIte, Nat.reduceEqDiff]; rfl) ?_)); clear hK14
    refine V_seqJ (fun l h' => ∃ (e2 : Nat), (e2 = if eq = 0 ∧ 256 ≤ outk.length then 10 else eq) ∧ l = [(0, .pointer (some ⟨M, 0, none⟩)), (1, .slice oak outk.length ock), (7, .int .i64 (sk.p : Int)), (8, .int .i64 (nn : Int)), (9, .int .i64 (e2 : Int)), (10, .int .i64 (k : Int)), (11, .int .i64 (cq : Int))] ∧ h1 = h') ?_ ?_
    · skip
      refine V_sr T.mix (by kernel_rfl) (fun K16 hK16 => ?_)
      refine S_cut (K' := fun l h' => ∃ b : Bool, (b = true ↔ (eq = 0 ∧ 256 ≤ outk.length)) ∧ l = [(0, .pointer (some ⟨M, 0, none⟩)), (1, .slice oak outk.length ock), (7, .int .i64 (sk.p : Int)), (8, .int .i64 (nn : Int)), (9, .int .i64 (eq : Int)), (10, .int .i64 (k : Int)), (11, .int .i64 (cq : Int)), (43, .bool b)] ∧ h1 = h') ?_ ?_
      · skip
        refine S_mv rfl ?_
        refine S_bin rfl rfl rfl ?_
        refine S_mv rfl ?_
        refine S_dec (fun g32 => ?_) (fun g32 => ?_)
        · skip
          refine S_gt rfl ?_
          refine S_mv rfl ?_
          refine S_gt rfl ?_
          refine S_lenl T.el55 rfl ?_
          refine S_gt rfl ?_
          refine S_bin rfl rfl rfl ?_
          refine S_pt rfl rfl ?_
          exact S_nilk [0, 1, 7, 8, 9, 10, 11, 43] (by simp only [proj, lk, reduceIte, Nat.reduceEqDiff]; rfl) ⟨_, (by first | (simp only [decide_eq_true_eq]; omega) | (simp; omega)), rfl, rfl⟩
        · skip
          refine S_gf rfl ?_
          refine S_gf rfl ?_
          refine S_gf rfl ?_
          refine S_pf rfl rfl ?_
          exact S_nilk [0, 1, 7, 8, 9, 10, 11, 43] (by simp only [proj, lk, reduceIte, Nat.reduceEqDiff]; rfl) ⟨_, (by first | (simp only [decide_eq_true_eq]; omega) | (simp; omega)), rfl, rfl⟩
      rintro l h' ⟨b, hb32, rfl, rfl⟩
      refine hK16 _ _ ?_; clear hK16
      refine V_condb rfl (fun c32 => ?_) (fun c32 => ?_)
      · replace c32 := hb32.1 c32
        refine V_reg T.mix (by kernel_rfl) ?_
        refine S_as rfl ?_
        refine S_nilk [0, 1, 7, 8, 9, 10, 11] (by simp only [proj, lk, reduceIte, Nat.reduceEqDiff]; rfl) ?_
        exact ⟨10, by rw [if_pos (by assumption)], rfl, rfl⟩
      · replace c32 : ¬ _ := fun hp => Bool.false_ne_true (c32.symm.trans (hb32.2 hp))
        refine V_skipk [0, 1, 7, 8, 9, 10, 11] (by simp only [proj, lk, reduceIte, Nat.reduceEqDiff]; rfl) ?_
        exact ⟨eq, by rw [if_neg (by assumption)], rfl, rfl⟩
    rintro l h' ⟨e2, he2, rfl, rfl⟩
    refine V_sr T.mix (by kernel_rfl) (fun K18 hK18 => ?_)
    refine S_mv rfl ?_
    refine S_bin rfl rfl rfl ?_
    refine S_nil (hK18 _ _ (V_keep [0, 1, 7, 8, 9, 10, 11, 45] (by simp only [proj, lk, reduceIte, Nat.reduceEqDiff]; rfl) ?_)); clear hK18
    refine V_condp rfl (fun c35 => ?_) (fun c35 => ?_)
    · skip
      have hlen9 : ¬ 256 ≤ outk.length := fun z => by by_cases q : eq = 0; (rw [if_pos ⟨q, z⟩] at he2; omega); (rw [if_neg (fun w => q w.1)] at he2; omega)
      refine V_reg T.mix (by kernel_rfl) ?_
      refine S_mv rfl ?_
      refine S_mv rfl ?_
      have hc8 : cq < 256 := by rw [hcq]; exact take_lt (k := 8) (by omega)
      refine S_cvb T.us3 T.in5 rfl (by omega) (by omega) ?_
      refine S_bs T.ei55 rfl (by decide) (by decide) (T.bs55_1_0 _) ?_
      refine S_appx (lo := 0) T.ei55 T.ni55 T.us55 rfl rfl rfl (OwnR.ext dwq.ob (Ext.push (fun _ => False) _ _) (fun _ _ f => f)) (Nat.zero_le _) (cellsH_new _ _ _) rfl (by omega) (by decide) (by decide) rfl (fun oa3 oc3 h3 ho3 hE3 hb3 => ?_)
      have hF3 : Ext (fun b => blkA oak = some b) h1 h3 := (Ext.push _ _ _).trans hE3
      have hG3 : blkA oa3 = blkA oak ∨ ∃ b, blkA oa3 = some b ∧ h1.size ≤ b := by rcases hb3 with q | q; (exact .inl q); (exact .inr ⟨_, q, by simp⟩)
      obtain ⟨dw3, dx3⟩ := dwq.app (OB.app ho3) hF3 hG3 (by rw [List.length_append]; simp only [List.length_cons, List.length_nil]; omega)
      rw [show outk.length + 1 = (outk ++ [(cq : Int)]).length by simp]
      refine S_as rfl ?_
      refine S_nilk [0, 1, 7, 8, 9, 10] (by simp only [proj, lk, reduceIte, Nat.reduceEqDiff]; rfl) ?_
      refine hK11 _ _ ?_; clear hK11
      refine V_reg T.mix (by kernel_rfl) ?_
      refine S_mv rfl ?_
      first | refine S_add rfl rfl (by omega) (by omega) ?_ | refine S_bin rfl rfl rfl ?_
      refine S_as rfl ?_
      refine S_nilk [0, 1, 7, 8, 9, 10] (by simp only [proj, lk, reduceIte, Nat.reduceEqDiff]; rfl) ?_
      rcases hin with ⟨q1, q2, q3⟩ | ⟨q1, _⟩
      · have he1 : skipE sk 8 = 0 := by rw [← heq]; split at he2 <;> omega
        have hlen : ¬ 256 ≤ outk.length := fun z => by rw [if_pos ⟨by omega, z⟩] at he2; omega
        rw [show nn - k = (nn - (k + 1)) + 1 by omega, stoL_go he1 hlen, ← hsq, ← hcq] at q3
        exact hK7 _ _ ⟨_, by omega, k + 1, h3, taq, tcq, sq, oa3, oc3, _, 0, sk.p, .inl ⟨rfl, by omega, q3⟩, dw3, (dxk.trans dxq).trans dx3, rfl, by rw [show e2 = 0 by omega]; rfl, rfl⟩
      · omega
    · skip
      refine V_skipk [0, 1, 7, 8, 9, 10] (by simp only [proj, lk, reduceIte, Nat.reduceEqDiff]; rfl) ?_
      refine hK11 _ _ ?_; clear hK11
      refine V_reg T.mix (by kernel_rfl) ?_
      refine S_mv rfl ?_
      first | refine S_add rfl rfl (by omega) (by omega) ?_ | refine S_bin rfl rfl rfl ?_
      refine S_as rfl ?_
      refine S_nilk [0, 1, 7, 8, 9, 10] (by simp only [proj, lk, reduceIte, Nat.reduceEqDiff]; rfl) ?_
      rcases hin with ⟨q1, q2, q3⟩ | ⟨q1, _⟩
      · rw [heq] at he2
        rw [show nn - k = (nn - (k + 1)) + 1 by omega, stoL_no he2 (by omega), ← hsq] at q3
        exact hK7 _ _ ⟨_, by omega, k + 1, h1, taq, tcq, sq, oak, ock, outk, e2, sk.p, .inr ⟨by omega, q3⟩, dwq, dxk.trans dxq, rfl, rfl, rfl⟩
      · omega
  · replace c28 : ¬ _ := fun hp => Bool.false_ne_true (c28.symm.trans (hb28.2 hp))
    refine V_exitk [1, 7, 9] rfl (by simp only [proj, lk, reduceIte, Nat.reduceEqDiff]; rfl) ?_
    refine hK5 _ _ ?_; clear hK5
    refine V_sr T.mix (by kernel_rfl) (fun K19 hK19 => ?_)
    refine S_mv rfl ?_
    refine S_mv rfl ?_
    refine S_mv rfl ?_
    refine S_as rfl ?_
    refine S_as rfl ?_
    refine S_as rfl ?_
    refine S_nil (hK19 _ _ (V_keep [4, 5, 6] (by simp only [proj, lk, reduceIte, Nat.reduceEqDiff]; rfl) ?_)); clear hK19
    refine V_ret ?_
    refine hR _ _ (ret3 rfl rfl rfl rfl ?_)
    have hR : stoF s out = ⟨outk, ek, atk, sk⟩ := by
      rcases hin with ⟨q1, q2, q3⟩ | ⟨_, q⟩
      · rw [q3, show nn - k = 0 by omega, stoL, q1]
      · exact q
    rw [hR]
    exact ⟨tak, tck, oak, ock, rfl, dwk, dxk⟩
set_option maxHeartbeats 3200000 in
theorem mlengths_spec (h : Heap) (M : Nat) (ta : Option Addr) (tc : Nat) (s : TS) (mt : BitW.MT h M ta tc s) :
    FC Tryz.prog 89 (#[.pointer (some ⟨M, 0, none⟩)] : Array Value) h fun rv h' => ∃ la' ll ta' tc', rv = .tuple #[.slice la' ll ll, .int .i64 (((lnF 273 s []).e : Nat) : Int), .int .i64 (((lnF 273 s []).pl : Nat) : Int)] ∧ BitW.MT h' M ta' tc' (lnF 273 s []).s ∧ BitW.MEx M h h' ta ta' ∧ ((lnF 273 s []).e = 0 → la' = some ⟨h.size, 0, none⟩ ∧ ll = 273 ∧ (lnF 273 s []).l.length = 273 ∧ B h' h.size (ia 273 fun j => (lnF 273 s []).l.getD j 0) 3 ∧ blkA ta' ≠ some h.size) := by
  have hMl := MT.mlt mt
  have hMz : ¬ M = h.size := by omega
  have al : (0 : Nat) = 0 := rfl
  have hol := al
  refine FC_of [(0, .pointer (some ⟨M, 0, none⟩))] Tryz.func89 rfl Tryz.ntmps89 (by simp) rfl (fun R hR => ?_)
  refine V_sr T.mix (by kernel_rfl) (fun K1 hK1 => ?_)
  refine S_as rfl ?_
  refine S_as rfl ?_
  refine S_as rfl ?_
  refine S_nil (hK1 _ _ (V_keep [0] (by simp only [proj, lk, reduceIte, Nat.reduceEqDiff]; rfl) ?_)); clear hK1
  refine V_sr T.mix (by kernel_rfl) (fun K2 hK2 => ?_)
  refine S_mk T.ei56 rfl rfl (by omega) (by omega) (by omega) (by omega) ?_
  rw [show ((273 : Int)).toNat = 273 from rfl, Nat.mul_one, mkZ_one]
  generalize hh : Array.push h _ = g1
  have bl0 : B g1 h.size (ia 273 (fun _ => 0)) 3 := by rw [← hh]; exact B.new _ _ _
  have hEg : Ext (fun _ => False) h g1 := by rw [← hh]; exact Ext.push _ _ _
  clear hh
  have mt0 := mt.ext hEg (fun f => f) (fun _ _ f => f)
  have mx0 : BitW.MEx M h g1 ta ta := ⟨hEg.mono fun _ f => f.elim, fun _ e => .inl e⟩
  have hn0 : blkA ta ≠ some h.size := fun e => by have h9 := MT.tlt mt e; omega
  refine S_as rfl ?_
  refine S_nil (hK2 _ _ (V_keep [0, 5] (by simp only [proj, lk, reduceIte, Nat.reduceEqDiff]; rfl) ?_)); clear hK2
  refine V_sr T.mix (by kernel_rfl) (fun K3 hK3 => ?_)
  refine S_as rfl ?_
  refine S_nil (hK3 _ _ (V_keep [0, 5, 6] (by simp only [proj, lk, reduceIte, Nat.reduceEqDiff]; rfl) ?_)); clear hK3
  refine V_seq (fun K4 hK4 => ?_)
  refine V_block ?_
  refine V_loop (fun m l h' => ∃ (f : Nat) (L : List Nat) (hk : Heap) (tak : Option Addr) (tck : Nat) (sk : TS), (273 ≤ L.length + f) ∧ (lnF f sk L = lnF 273 s []) ∧ (L.length ≤ 273) ∧ (B hk h.size (ia 273 fun j => L.getD j 0) 3) ∧ (BitW.MT hk M tak tck sk) ∧ (BitW.MEx M h hk ta tak) ∧ (blkA tak ≠ some h.size) ∧ m = 273 - L.length ∧ l = [(0, .pointer (some ⟨M, 0, none⟩)), (5, .slice (some ⟨h.size, 0, none⟩) 273 273), (6, .int .i64 ((L.length : Nat) : Int))] ∧ hk = h') _ ⟨273, [], g1, ta, tc, s, by simp, rfl, by simp, ia_cong bl0 (fun j hj => by simp), mt0, mx0, hn0, rfl, rfl, rfl⟩ ?_
  rintro m l h' ⟨f, L, hk, tak, tck, sk, hf2, hf, hL, bl, mtk, mxk, nlk, rfl, rfl, rfl⟩ K5 hK5
  refine V_seq (fun K6 hK6 => ?_)
  refine V_sr T.mix (by kernel_rfl) (fun K7 hK7 => ?_)
  refine S_mv rfl ?_
  refine S_mv rfl ?_
  refine S_lenl T.el56 rfl ?_
  refine S_bin rfl rfl rfl ?_
  refine S_nil (hK7 _ _ (V_keep [0, 5, 6, 19] (by simp only [proj, lk, reduceIte, Nat.reduceEqDiff]; rfl) ?_)); clear hK7
  refine V_condp rfl (fun c46 => ?_) (fun c46 => ?_)
  · skip
    obtain ⟨g, rfl⟩ : ∃ g, f = g + 1 := ⟨f - 1, by omega⟩
    rw [lnF, if_neg (by omega)] at hf
    refine V_skipk [0, 5, 6] (by simp only [proj, lk, reduceIte, Nat.reduceEqDiff]; rfl) ?_
    refine hK6 _ _ ?_; clear hK6
    refine V_block ?_
    refine V_sr T.mix (by kernel_rfl) (fun K8 hK8 => ?_)
    refine S_mv rfl ?_
    refine S_call T.hb85 rfl ?_
    refine FC.mono (BitW.mpos_spec hk M _ _ sk mtk) ?_
    rintro v' h' ⟨rfl, rfl⟩
    refine S_as rfl ?_
    refine S_nil (hK8 _ _ (V_keep [0, 5, 6, 7] (by simp only [proj, lk, reduceIte, Nat.reduceEqDiff]; rfl) ?_)); clear hK8
    refine V_sr T.mix (by kernel_rfl) (fun K9 hK9 => ?_)
    refine S_mv rfl ?_
    refine S_call T.hb86 rfl ?_
    refine FC.mono (BitW.mtake_spec hk M _ _ sk mtk (4)) ?_
    rintro v' h1 ⟨hv', taa, tca, mta, mxa⟩
    obtain ⟨ea, hea⟩ : ∃ x, x = skipE sk (4) := ⟨_, rfl⟩
    obtain ⟨ca, hca⟩ : ∃ x, x = takeV sk (4) := ⟨_, rfl⟩
    obtain ⟨sa, hsa⟩ : ∃ x, x = skipS sk (4) := ⟨_, rfl⟩
    rw [← hea, ← hca] at hv'
    rw [← hsa] at mta
    subst hv'
    rw [← hea, ← hca, ← hsa] at hf
    have hca16 : ca < 16 := by rw [hca]; exact take_lt (k := 4) (by omega)
    have nlm : ¬ (h.size = M ∨ blkA tak = some h.size) := fun e => by rcases e with e | e; (omega); (exact nlk e)
    have bl1 := bl.ext mxa.1 nlm
    have hkl := bl.lt
    have nla : blkA taa ≠ some h.size := fun e => by rcases mxa.2 _ e with q | q; (exact nlk q); (omega)
    have mx1 := mxk.trans mxa
    try clear al hol
    have al := ia_at bl1
    have hol := ia_ok bl1
    refine S_mv rfl ?_
    refine S_ex rfl rfl ?_
    refine S_ex rfl rfl ?_
    refine S_as rfl ?_
    refine S_as rfl ?_
    refine S_nil (hK9 _ _ (V_keep [0, 5, 6, 7, 8, 9] (by simp only [proj, lk, reduceIte, Nat.reduceEqDiff]; rfl) ?_)); clear hK9
    refine V_seq (fun K10 hK10 => ?_)
    refine V_sr T.mix (by kernel_rfl) (fun K11 hK11 => ?_)
    refine S_mv rfl ?_
    refine S_bin rfl rfl rfl ?_
    refine S_nil (hK11 _ _ (V_keep [0, 5, 6, 7, 8, 9, 28] (by simp only [proj, lk, reduceIte, Nat.reduceEqDiff]; rfl) ?_)); clear hK11
    refine V_condp rfl (fun c49 => ?_) (fun c49 => ?_)
    · skip
      refine V_sr T.mix (by kernel_rfl) (fun K12 hK12 => ?_)
      refine S_mv rfl ?_
      refine S_mv rfl ?_
      refine S_as rfl ?_
      refine S_as rfl ?_
      refine S_as rfl ?_
      refine S_nil (hK12 _ _ (V_keep [2, 3, 4] (by simp only [proj, lk, reduceIte, Nat.reduceEqDiff]; rfl) ?_)); clear hK12
      refine V_ret ?_
      refine hR _ _ (ret3 rfl rfl rfl rfl ?_)
      rw [if_pos (by omega)] at hf
      rw [← hf]
      exact ⟨none, 0, taa, tca, rfl, by simp only []; exact mta.eq (by rw [hsa, BitW.skipS_ne (by rw [← hea]; omega)]), mx1, fun z => by simp only [] at z; omega⟩
    · skip
      refine V_skipk [0, 5, 6, 7, 8] (by simp only [proj, lk, reduceIte, Nat.reduceEqDiff]; rfl) ?_
      refine hK10 _ _ ?_; clear hK10
      refine V_seq (fun K13 hK13 => ?_)
      refine V_sr T.mix (by kernel_rfl) (fun K14 hK14 => ?_)
      refine S_mv rfl ?_
      refine S_bin rfl rfl rfl ?_
      refine S_nil (hK14 _ _ (V_keep [0, 5, 6, 7, 8, 32] (by simp only [proj, lk, reduceIte, Nat.reduceEqDiff]; rfl) ?_)); clear hK14
      refine V_condp rfl (fun c52 => ?_) (fun c52 => ?_)
      · skip
        refine V_sr T.mix (by kernel_rfl) (fun K15 hK15 => ?_)
        refine S_mv rfl ?_
        refine S_mv rfl ?_
        refine S_mv rfl ?_
        first | refine S_ixn T.el56 rfl rfl (by omega) ?_ | refine S_ix1 T.el56 rfl rfl (by omega) (by omega) ?_ | refine S_ix T.el56 rfl rfl (by omega) (by omega) ?_
        refine S_st T.sz3 rfl rfl rfl rfl (by simp (disch := omega) only [hol]) ?_
        generalize hh : putH _ _ _ = h2
        have bl2 : B h2 h.size (ia 273 (Huf.ups (fun j => L.getD j 0) L.length ca)) 3 := by rw [← hh]; exact ia_put bl1 _ _
        have hEh2 : Ext (fun z => z = h.size) h1 h2 := by rw [← hh]; exact Ext.put _ _ rfl
        clear hh
        have mt2 := mta.ext hEh2 (fun e => hMz e) (fun b e z => nla (by rw [← z]; exact e))
        have mx2 := mex_put mx1 hEh2 (Nat.le_refl _)
        refine S_nil (hK15 _ _ (V_keep [0, 5, 6] (by simp only [proj, lk, reduceIte, Nat.reduceEqDiff]; rfl) ?_)); clear hK15
        refine V_sr T.mix (by kernel_rfl) (fun K16 hK16 => ?_)
        refine S_mv rfl ?_
        first | refine S_add rfl rfl (by omega) (by omega) ?_ | refine S_bin rfl rfl rfl ?_
        refine S_as rfl ?_
        refine S_nil (hK16 _ _ (V_keep [0, 5, 6] (by simp only [proj, lk, reduceIte, Nat.reduceEqDiff]; rfl) ?_)); clear hK16
        refine V_exitk [0, 5, 6] rfl (by simp only [proj, lk, reduceIte, Nat.reduceEqDiff]; rfl) ?_
        rw [if_neg (by omega), if_pos (by omega)] at hf
        rw [← getD_ups] at bl2
        have hl9 : (L ++ [ca]).length = L.length + 1 := by simp
        exact hK5 _ _ ⟨_, by omega, g, L ++ [ca], h2, taa, tca, sa, by omega, hf, by omega, bl2, mt2, mx2, nla, rfl, by rw [hl9]; rfl, rfl⟩
      · skip
        refine V_skipk [0, 5, 6, 7, 8] (by simp only [proj, lk, reduceIte, Nat.reduceEqDiff]; rfl) ?_
        refine hK13 _ _ ?_; clear hK13
        refine V_seq (fun K17 hK17 => ?_)
        refine V_sr T.mix (by kernel_rfl) (fun K18 hK18 => ?_)
        refine S_mv rfl ?_
        refine S_bin rfl rfl rfl ?_
        refine S_nil (hK18 _ _ (V_keep [0, 5, 6, 7, 8, 40] (by simp only [proj, lk, reduceIte, Nat.reduceEqDiff]; rfl) ?_)); clear hK18
        refine V_condp rfl (fun c57 => ?_) (fun c57 => ?_)
        · skip
          refine V_sr T.mix (by kernel_rfl) (fun K19 hK19 => ?_)
          refine S_mv rfl ?_
          refine S_as rfl ?_
          refine S_as rfl ?_
          refine S_as rfl ?_
          refine S_nil (hK19 _ _ (V_keep [2, 3, 4] (by simp only [proj, lk, reduceIte, Nat.reduceEqDiff]; rfl) ?_)); clear hK19
          refine V_ret ?_
          refine hR _ _ (ret3 rfl rfl rfl rfl ?_)
          rw [if_neg (by omega), if_neg (by omega), if_pos (by omega)] at hf
          rw [← hf]
          exact ⟨none, 0, taa, tca, rfl, mta, mx1, fun z => by simp only [] at z; omega⟩
        · skip
          refine V_skipk [0, 5, 6, 7, 8] (by simp only [proj, lk, reduceIte, Nat.reduceEqDiff]; rfl) ?_
          refine hK17 _ _ ?_; clear hK17
          refine V_sr T.mix (by kernel_rfl) (fun K20 hK20 => ?_)
          refine S_as rfl ?_
          refine S_nil (hK20 _ _ (V_keep [0, 5, 6, 7, 8, 10] (by simp only [proj, lk, reduceIte, Nat.reduceEqDiff]; rfl) ?_)); clear hK20
          refine V_seqJ (fun l h' => ∃ (mo_ : Nat), (mo_ = mr ca) ∧ (mo_ ≤ 7) ∧ l = [(0, .pointer (some ⟨M, 0, none⟩)), (5, .slice (some ⟨h.size, 0, none⟩) 273 273), (6, .int .i64 ((L.length : Nat) : Int)), (7, .int .i64 (sk.p : Int)), (8, .int .i64 (ca : Int)), (10, .int .i64 (mo_ : Int))] ∧ h1 = h') ?_ ?_
          · skip
            refine V_sr T.mix (by kernel_rfl) (fun K22 hK22 => ?_)
            refine S_mv rfl ?_
            refine S_bin rfl rfl rfl ?_
            refine S_nil (hK22 _ _ (V_keep [0, 5, 6, 7, 8, 10, 43] (by simp only [proj, lk, reduceIte, Nat.reduceEqDiff]; rfl) ?_)); clear hK22
            refine V_condp rfl (fun c61 => ?_) (fun c61 => ?_)
            · skip
              refine V_reg T.mix (by kernel_rfl) ?_
              refine S_as rfl ?_
              refine S_nilk [0, 5, 6, 7, 8, 10] (by simp only [proj, lk, reduceIte, Nat.reduceEqDiff]; rfl) ?_
              exact ⟨2, by unfold mr; rw [if_pos (by omega)], by omega, rfl, rfl⟩
            · skip
              refine V_skipk [0, 5, 6, 7, 8, 10] (by simp only [proj, lk, reduceIte, Nat.reduceEqDiff]; rfl) ?_
              exact ⟨7, by unfold mr; rw [if_neg (by omega)], by omega, rfl, rfl⟩
          rintro l h' ⟨mo_, hmo, hmo2, rfl, rfl⟩
          refine V_sr T.mix (by kernel_rfl) (fun K23 hK23 => ?_)
          refine S_mv rfl ?_
          refine S_mv rfl ?_
          refine S_call T.hb86 rfl ?_
          refine FC.mono (BitW.mtake_spec h1 M _ _ sa mta ((mo_ : Int))) ?_
          rintro v' h3 ⟨hv', tab, tcb, mtb, mxb⟩
          obtain ⟨eb, heb⟩ : ∃ x, x = skipE sa ((mo_ : Int)) := ⟨_, rfl⟩
          obtain ⟨cb, hcb⟩ : ∃ x, x = takeV sa ((mo_ : Int)) := ⟨_, rfl⟩
          obtain ⟨sb, hsb⟩ : ∃ x, x = skipS sa ((mo_ : Int)) := ⟨_, rfl⟩
          rw [← heb, ← hcb] at hv'
          rw [← hsb] at mtb
          subst hv'
          rw [← hmo, ← heb, ← hcb, ← hsb] at hf
          have nlm3 : ¬ (h.size = M ∨ blkA taa = some h.size) := fun e => by rcases e with e | e; (omega); (exact nla e)
          have bl3 := bl1.ext mxb.1 nlm3
          have h1l := bl1.lt
          have nlb : blkA tab ≠ some h.size := fun e => by rcases mxb.2 _ e with q | q; (exact nla q); (omega)
          have mx3 := mx1.trans mxb
          try clear al hol
          have al := ia_at bl3
          have hol := ia_ok bl3
          refine S_mv rfl ?_
          refine S_ex rfl rfl ?_
          refine S_ex rfl rfl ?_
          refine S_as rfl ?_
          refine S_as rfl ?_
          refine S_nil (hK23 _ _ (V_keep [0, 5, 6, 7, 8, 11, 12] (by simp only [proj, lk, reduceIte, Nat.reduceEqDiff]; rfl) ?_)); clear hK23
          refine V_seq (fun K24 hK24 => ?_)
          refine V_sr T.mix (by kernel_rfl) (fun K25 hK25 => ?_)
          refine S_mv rfl ?_
          refine S_bin rfl rfl rfl ?_
          refine S_nil (hK25 _ _ (V_keep [0, 5, 6, 7, 8, 11, 12, 51] (by simp only [proj, lk, reduceIte, Nat.reduceEqDiff]; rfl) ?_)); clear hK25
          refine V_condp rfl (fun c65 => ?_) (fun c65 => ?_)
          · skip
            refine V_sr T.mix (by kernel_rfl) (fun K26 hK26 => ?_)
            refine S_mv rfl ?_
            refine S_mv rfl ?_
            refine S_as rfl ?_
            refine S_as rfl ?_
            refine S_as rfl ?_
            refine S_nil (hK26 _ _ (V_keep [2, 3, 4] (by simp only [proj, lk, reduceIte, Nat.reduceEqDiff]; rfl) ?_)); clear hK26
            refine V_ret ?_
            refine hR _ _ (ret3 rfl rfl rfl rfl ?_)
            rw [if_neg (by omega), if_neg (by omega), if_neg (by omega), if_pos (by omega)] at hf
            rw [← hf]
            exact ⟨none, 0, tab, tcb, rfl, by simp only []; exact mtb.eq (by rw [hsb, BitW.skipS_ne (by rw [← heb]; omega)]), mx3, fun z => by simp only [] at z; omega⟩
          · skip
            refine V_skipk [0, 5, 6, 7, 8, 11] (by simp only [proj, lk, reduceIte, Nat.reduceEqDiff]; rfl) ?_
            refine hK24 _ _ ?_; clear hK24
            refine V_sr T.mix (by kernel_rfl) (fun K27 hK27 => ?_)
            refine S_as rfl ?_
            refine S_nil (hK27 _ _ (V_keep [0, 5, 6, 7, 8, 11, 13] (by simp only [proj, lk, reduceIte, Nat.reduceEqDiff]; rfl) ?_)); clear hK27
            refine V_seqJ (fun l h' => ∃ (v : Nat), (v = if ca = 12 then L.getD (L.length - 1) 0 else 0) ∧ (¬ (ca = 12 ∧ L.length = 0)) ∧ l = [(0, .pointer (some ⟨M, 0, none⟩)), (5, .slice (some ⟨h.size, 0, none⟩) 273 273), (6, .int .i64 ((L.length : Nat) : Int)), (7, .int .i64 (sk.p : Int)), (11, .int .i64 (cb : Int)), (13, .int .i64 (v : Int))] ∧ h3 = h') ?_ ?_
            · skip
              refine V_sr T.mix (by kernel_rfl) (fun K29 hK29 => ?_)
              refine S_mv rfl ?_
              refine S_bin rfl rfl rfl ?_
              refine S_nil (hK29 _ _ (V_keep [0, 5, 6, 7, 11, 13, 55] (by simp only [proj, lk, reduceIte, Nat.reduceEqDiff]; rfl) ?_)); clear hK29
              refine V_condp rfl (fun c69 => ?_) (fun c69 => ?_)
              · skip
                refine V_seq (fun K30 hK30 => ?_)
                refine V_sr T.mix (by kernel_rfl) (fun K31 hK31 => ?_)
                refine S_mv rfl ?_
                refine S_bin rfl rfl rfl ?_
                refine S_nil (hK31 _ _ (V_keep [0, 5, 6, 7, 11, 57] (by simp only [proj, lk, reduceIte, Nat.reduceEqDiff]; rfl) ?_)); clear hK31
                refine V_condp rfl (fun c70 => ?_) (fun c70 => ?_)
                · skip
                  refine V_sr T.mix (by kernel_rfl) (fun K32 hK32 => ?_)
                  refine S_mv rfl ?_
                  refine S_as rfl ?_
                  refine S_as rfl ?_
                  refine S_as rfl ?_
                  refine S_nil (hK32 _ _ (V_keep [2, 3, 4] (by simp only [proj, lk, reduceIte, Nat.reduceEqDiff]; rfl) ?_)); clear hK32
                  refine V_ret ?_
                  refine hR _ _ (ret3 rfl rfl rfl rfl ?_)
                  rw [if_neg (by omega), if_neg (by omega), if_neg (by omega), if_neg (by omega), if_pos (by omega)] at hf
                  rw [← hf]
                  exact ⟨none, 0, tab, tcb, rfl, mtb, mx3, fun z => by simp only [] at z; omega⟩
                · skip
                  refine V_skipk [0, 5, 6, 7, 11] (by simp only [proj, lk, reduceIte, Nat.reduceEqDiff]; rfl) ?_
                  refine hK30 _ _ ?_; clear hK30
                  refine V_reg T.mix (by kernel_rfl) ?_
                  refine S_mv rfl ?_
                  refine S_mv rfl ?_
                  refine S_subN (L.length - 1) rfl rfl (by omega) (by omega) ?_
                  first | refine S_ixn T.el56 rfl rfl (by omega) ?_ | refine S_ix1 T.el56 rfl rfl (by omega) (by omega) ?_ | refine S_ix T.el56 rfl rfl (by omega) (by omega) ?_
                  refine S_ldK T.ag3 rfl (fun K' hK' => ?_)
                  simp (disch := omega) only [al, oP_some, Nat.add_zero]
                  refine hK' _ ?_; clear hK' K'
                  refine S_as rfl ?_
                  refine S_nilk [0, 5, 6, 7, 11, 13] (by simp only [proj, lk, reduceIte, Nat.reduceEqDiff]; rfl) ?_
                  exact ⟨L.getD (L.length - 1) 0, by rw [if_pos (by omega)], by omega, rfl, rfl⟩
              · skip
                refine V_skipk [0, 5, 6, 7, 11, 13] (by simp only [proj, lk, reduceIte, Nat.reduceEqDiff]; rfl) ?_
                exact ⟨0, by rw [if_neg (by omega)], by omega, rfl, rfl⟩
            rintro l h' ⟨v, hv, hv2, rfl, rfl⟩
            refine V_seq (fun K33 hK33 => ?_)
            refine V_sr T.mix (by kernel_rfl) (fun K34 hK34 => ?_)
            refine S_mv rfl ?_
            have hcb7 : cb < 128 := by have h9 := take_lt (s := sa) (k := mo_) (by omega); rw [← hcb] at h9; have h8 : 2 ^ mo_ ≤ 2 ^ 7 := Nat.pow_le_pow_right (by omega) (by omega); omega
            refine S_addN (L.length + 3) rfl rfl (by omega) (by omega) ?_
            refine S_mv rfl ?_
            refine S_addN (L.length + 3 + cb) rfl rfl (by omega) (by omega) ?_
            refine S_mv rfl ?_
            refine S_lenl T.el56 rfl ?_
            refine S_bin rfl rfl rfl ?_
            refine S_nil (hK34 _ _ (V_keep [0, 5, 6, 7, 11, 13, 70] (by simp only [proj, lk, reduceIte, Nat.reduceEqDiff]; rfl) ?_)); clear hK34
            refine V_condp rfl (fun c75 => ?_) (fun c75 => ?_)
            · skip
              refine V_sr T.mix (by kernel_rfl) (fun K35 hK35 => ?_)
              refine S_mv rfl ?_
              refine S_as rfl ?_
              refine S_as rfl ?_
              refine S_as rfl ?_
              refine S_nil (hK35 _ _ (V_keep [2, 3, 4] (by simp only [proj, lk, reduceIte, Nat.reduceEqDiff]; rfl) ?_)); clear hK35
              refine V_ret ?_
              refine hR _ _ (ret3 rfl rfl rfl rfl ?_)
              rw [if_neg (by omega), if_neg (by omega), if_neg (by omega), if_neg (by omega), if_neg hv2, if_pos (by omega)] at hf
              rw [← hf]
              exact ⟨none, 0, tab, tcb, rfl, mtb, mx3, fun z => by simp only [] at z; omega⟩
            · skip
              refine V_skipk [0, 5, 6, 11, 13] (by simp only [proj, lk, reduceIte, Nat.reduceEqDiff]; rfl) ?_
              refine hK33 _ _ ?_; clear hK33
              refine V_sr T.mix (by kernel_rfl) (fun K36 hK36 => ?_)
              refine S_as rfl ?_
              refine S_nil (hK36 _ _ (V_keep [0, 5, 6, 11, 13, 14] (by simp only [proj, lk, reduceIte, Nat.reduceEqDiff]; rfl) ?_)); clear hK36
              refine V_block ?_
              refine V_loop (fun m l h' => ∃ (k : Nat) (hj : Heap), (k ≤ 3 + cb) ∧ (B hj h.size (ia 273 fun j => (L ++ List.replicate k v).getD j 0) 3) ∧ (BitW.MT hj M tab tcb sb) ∧ (BitW.MEx M h hj ta tab) ∧ m = 3 + cb - k ∧ l = [(0, .pointer (some ⟨M, 0, none⟩)), (5, .slice (some ⟨h.size, 0, none⟩) 273 273), (6, .int .i64 ((L.length + k : Nat) : Int)), (11, .int .i64 (cb : Int)), (13, .int .i64 (v : Int)), (14, .int .i64 (k : Int))] ∧ hj = h') _ ⟨0, h3, Nat.zero_le _, by rw [List.replicate_zero, List.append_nil]; exact bl3, mtb, mx3, rfl, rfl, rfl⟩ ?_
              rintro m l h' ⟨k, hj, hk3, blj, mtj, mxj, rfl, rfl, rfl⟩ K37 hK37
              try clear al hol
              have hol := ia_ok blj
              refine V_seq (fun K38 hK38 => ?_)
              refine V_sr T.mix (by kernel_rfl) (fun K39 hK39 => ?_)
              refine S_mv rfl ?_
              refine S_mv rfl ?_
              refine S_addN (3 + cb) rfl rfl (by omega) (by omega) ?_
              refine S_bin rfl rfl rfl ?_
              refine S_nil (hK39 _ _ (V_keep [0, 5, 6, 11, 13, 14, 75] (by simp only [proj, lk, reduceIte, Nat.reduceEqDiff]; rfl) ?_)); clear hK39
              refine V_condp rfl (fun c78 => ?_) (fun c78 => ?_)
              · skip
                refine V_skipk [0, 5, 6, 11, 13, 14] (by simp only [proj, lk, reduceIte, Nat.reduceEqDiff]; rfl) ?_
                refine hK38 _ _ ?_; clear hK38
                refine V_seq (fun K40 hK40 => ?_)
                refine V_block ?_
                refine V_sr T.mix (by kernel_rfl) (fun K41 hK41 => ?_)
                refine S_mv rfl ?_
                refine S_mv rfl ?_
                refine S_mv rfl ?_
                first | refine S_ixn T.el56 rfl rfl (by omega) ?_ | refine S_ix1 T.el56 rfl rfl (by omega) (by omega) ?_ | refine S_ix T.el56 rfl rfl (by omega) (by omega) ?_
                refine S_st T.sz3 rfl rfl rfl rfl (by simp (disch := omega) only [hol]) ?_
                generalize hh : putH _ _ _ = h4
                have bl4 : B h4 h.size (ia 273 (Huf.ups (fun j => (L ++ List.replicate k v).getD j 0) (L.length + k) v)) 3 := by rw [← hh]; exact ia_put blj _ _
                have hEh4 : Ext (fun z => z = h.size) hj h4 := by rw [← hh]; exact Ext.put _ _ rfl
                clear hh
                have mt4 := mtj.ext hEh4 (fun e => hMz e) (fun b e z => nlb (by rw [← z]; exact e))
                have mx4 := mex_put mxj hEh4 (Nat.le_refl _)
                refine S_nil (hK41 _ _ (V_keep [0, 5, 6, 11, 13, 14] (by simp only [proj, lk, reduceIte, Nat.reduceEqDiff]; rfl) ?_)); clear hK41
                refine V_reg T.mix (by kernel_rfl) ?_
                refine S_mv rfl ?_
                refine S_addN (L.length + (k + 1)) rfl rfl (by omega) (by omega) ?_
                refine S_as rfl ?_
                refine S_nilk [0, 5, 6, 11, 13, 14] (by simp only [proj, lk, reduceIte, Nat.reduceEqDiff]; rfl) ?_
                refine hK40 _ _ ?_; clear hK40
                refine V_reg T.mix (by kernel_rfl) ?_
                refine S_mv rfl ?_
                first | refine S_add rfl rfl (by omega) (by omega) ?_ | refine S_bin rfl rfl rfl ?_
                refine S_as rfl ?_
                refine S_nilk [0, 5, 6, 11, 13, 14] (by simp only [proj, lk, reduceIte, Nat.reduceEqDiff]; rfl) ?_
                exact hK37 _ _ ⟨_, by omega, k + 1, h4, by omega, by rw [rep_ups]; exact bl4, mt4, mx4, rfl, rfl, rfl⟩
              · skip
                refine V_exitk [0, 5, 6] rfl (by simp only [proj, lk, reduceIte, Nat.reduceEqDiff]; rfl) ?_
                have hk3 : k = 3 + cb := by omega
                rw [if_neg (by omega), if_neg (by omega), if_neg (by omega), if_neg (by omega), if_neg hv2, if_neg (by omega), ← hv, ← hk3] at hf
                have hl9 : (L ++ List.replicate k v).length = L.length + k := by simp
                exact hK5 _ _ ⟨_, by omega, g, L ++ List.replicate k v, hj, tab, tcb, sb, by omega, hf, by omega, blj, mtj, mxj, nlb, rfl, by rw [hl9], rfl⟩
  · skip
    refine V_exitk [5] rfl (by simp only [proj, lk, reduceIte, Nat.reduceEqDiff]; rfl) ?_
    refine hK4 _ _ ?_; clear hK4
    refine V_sr T.mix (by kernel_rfl) (fun K42 hK42 => ?_)
    refine S_mv rfl ?_
    refine S_as rfl ?_
    refine S_as rfl ?_
    refine S_as rfl ?_
    refine S_nil (hK42 _ _ (V_keep [2, 3, 4] (by simp only [proj, lk, reduceIte, Nat.reduceEqDiff]; rfl) ?_)); clear hK42
    refine V_ret ?_
    refine hR _ _ (ret3 rfl rfl rfl rfl ?_)
    have hL3 : 273 ≤ L.length := by omega
    rw [lnF_end hL3] at hf
    rw [← hf]
    exact ⟨some ⟨h.size, 0, none⟩, 273, tak, tck, rfl, mtk, mxk, fun _ => ⟨rfl, rfl, Nat.le_antisymm hL hL3, bl, nlk⟩⟩
set_option maxHeartbeats 800000 in
theorem fixedlens_spec (h : Heap) :
    FC Tryz.prog 72 (#[] : Array Value) h fun rv h' => rv = .slice (some ⟨h.size, 0, none⟩) 273 273 ∧ B h' h.size (ia 273 fun j => fixL.getD j 0) 3 ∧ Ext (fun _ => False) h h' := by
  have hop : (0 : Nat) = 0 := rfl
  refine FC_of [] Tryz.func72 rfl Tryz.ntmps72 (by simp) rfl (fun R hR => ?_)
  refine V_sr T.mix (by kernel_rfl) (fun K1 hK1 => ?_)
  refine S_as rfl ?_
  refine S_nil (hK1 _ _ (V_keep [] (by simp only [proj, lk, reduceIte, Nat.reduceEqDiff]; rfl) ?_)); clear hK1
  refine V_sr T.mix (by kernel_rfl) (fun K2 hK2 => ?_)
  refine S_mk T.ei56 rfl rfl (by omega) (by omega) (by omega) (by omega) ?_
  rw [show ((273 : Int)).toNat = 273 from rfl, Nat.mul_one, mkZ_one]
  generalize hh : Array.push h _ = g1
  have bl0 : B g1 h.size (ia 273 (fun _ => 0)) 3 := by rw [← hh]; exact B.new _ _ _
  have hEg : Ext (fun _ => False) h g1 := by rw [← hh]; exact Ext.push _ _ _
  clear hh
  refine S_as rfl ?_
  refine S_nil (hK2 _ _ (V_keep [1] (by simp only [proj, lk, reduceIte, Nat.reduceEqDiff]; rfl) ?_)); clear hK2
  refine V_seq (fun K3 hK3 => ?_)
  refine V_sr T.mix (by kernel_rfl) (fun K4 hK4 => ?_)
  refine S_as rfl ?_
  refine S_nil (hK4 _ _ (V_keep [1, 2] (by simp only [proj, lk, reduceIte, Nat.reduceEqDiff]; rfl) ?_)); clear hK4
  refine V_block ?_
  refine V_loop (fun m l h' => ∃ (s : Nat) (hk : Heap) (A : Nat → Nat), (s ≤ 265) ∧ (B hk h.size (ia 273 A) 3) ∧ (∀ j, j < s → A j = fixL.getD j 0) ∧ (Ext (fun _ => False) h hk) ∧ m = 265 - s ∧ l = [(1, .slice (some ⟨h.size, 0, none⟩) 273 273), (2, .int .i64 (s : Int))] ∧ hk = h') _ ⟨0, g1, _, Nat.zero_le _, bl0, fun j hj => by omega, hEg, rfl, rfl, rfl⟩ ?_
  rintro m l h' ⟨s, hk, A, hs, bk, hA, hEk, rfl, rfl, rfl⟩ K5 hK5
  try clear hop
  have hop := ia_ok bk
  refine V_seq (fun K6 hK6 => ?_)
  refine V_sr T.mix (by kernel_rfl) (fun K7 hK7 => ?_)
  refine S_mv rfl ?_
  refine S_bin rfl rfl rfl ?_
  refine S_nil (hK7 _ _ (V_keep [1, 2, 6] (by simp only [proj, lk, reduceIte, Nat.reduceEqDiff]; rfl) ?_)); clear hK7
  refine V_condp rfl (fun c89 => ?_) (fun c89 => ?_)
  · skip
    refine V_skipk [1, 2] (by simp only [proj, lk, reduceIte, Nat.reduceEqDiff]; rfl) ?_
    refine hK6 _ _ ?_; clear hK6
    refine V_seq (fun K8 hK8 => ?_)
    refine V_block ?_
    refine V_reg T.mix (by kernel_rfl) ?_
    refine S_mv rfl ?_
    refine S_mv rfl ?_
    refine S_mv rfl ?_
    refine S_call T.hb106 rfl ?_
    refine FC.mono (fixedlen_spec hk s (by omega)) ?_
    rintro v' h' ⟨rfl, rfl⟩
    first | refine S_ixn T.el56 rfl rfl (by omega) ?_ | refine S_ix1 T.el56 rfl rfl (by omega) (by omega) ?_ | refine S_ix T.el56 rfl rfl (by omega) (by omega) ?_
    refine S_st T.sz3 rfl rfl rfl rfl (by simp (disch := omega) only [hop]) ?_
    generalize hh : putH _ _ _ = h1
    have bph1 : B h1 h.size (ia 273 (Huf.ups A (s) (fixL.getD s 0))) 3 := by rw [← hh]; exact ia_put bk _ _
    have hEh1 : Ext (fun _ => False) h h1 := by rw [← hh]; exact hEk.putn (Nat.le_refl _)
    clear hh
    refine S_nilk [1, 2] (by simp only [proj, lk, reduceIte, Nat.reduceEqDiff]; rfl) ?_
    refine hK8 _ _ ?_; clear hK8
    refine V_reg T.mix (by kernel_rfl) ?_
    refine S_mv rfl ?_
    first | refine S_add rfl rfl (by omega) (by omega) ?_ | refine S_bin rfl rfl rfl ?_
    refine S_as rfl ?_
    refine S_nilk [1, 2] (by simp only [proj, lk, reduceIte, Nat.reduceEqDiff]; rfl) ?_
    exact hK5 _ _ ⟨_, by omega, s + 1, h1, Huf.ups A s (fixL.getD s 0), by omega, bph1, fun j hj => by by_cases e : j = s; (rw [e, Huf.ups_eq]); (rw [Huf.ups_ne _ _ e]; exact hA j (by omega)), hEh1, rfl, rfl, rfl⟩
  · skip
    refine V_exitk [1] rfl (by simp only [proj, lk, reduceIte, Nat.reduceEqDiff]; rfl) ?_
    refine hK3 _ _ ?_; clear hK3
    refine V_seq (fun K9 hK9 => ?_)
    refine V_sr T.mix (by kernel_rfl) (fun K10 hK10 => ?_)
    refine S_as rfl ?_
    refine S_nil (hK10 _ _ (V_keep [1, 3] (by simp only [proj, lk, reduceIte, Nat.reduceEqDiff]; rfl) ?_)); clear hK10
    refine V_block ?_
    refine V_loop (fun m l h' => ∃ (c : Nat) (hk : Heap) (A : Nat → Nat), (c ≤ 8) ∧ (B hk h.size (ia 273 A) 3) ∧ (∀ j, j < 265 + c → A j = fixL.getD j 0) ∧ (Ext (fun _ => False) h hk) ∧ m = 8 - c ∧ l = [(1, .slice (some ⟨h.size, 0, none⟩) 273 273), (3, .int .i64 (c : Int))] ∧ hk = h') _ ⟨0, hk, A, Nat.zero_le _, bk, fun j hj => hA j (by omega), hEk, rfl, rfl, rfl⟩ ?_
    rintro m l h' ⟨c, hk, A, hc, bk, hA, hEk, rfl, rfl, rfl⟩ K11 hK11
    try clear hop
    have hop := ia_ok bk
    refine V_seq (fun K12 hK12 => ?_)
    refine V_sr T.mix (by kernel_rfl) (fun K13 hK13 => ?_)
    refine S_mv rfl ?_
    refine S_bin rfl rfl rfl ?_
    refine S_nil (hK13 _ _ (V_keep [1, 3, 15] (by simp only [proj, lk, reduceIte, Nat.reduceEqDiff]; rfl) ?_)); clear hK13
    refine V_condp rfl (fun c92 => ?_) (fun c92 => ?_)
    · skip
      refine V_skipk [1, 3] (by simp only [proj, lk, reduceIte, Nat.reduceEqDiff]; rfl) ?_
      refine hK12 _ _ ?_; clear hK12
      refine V_seq (fun K14 hK14 => ?_)
      refine V_block ?_
      refine V_reg T.mix (by kernel_rfl) ?_
      refine S_mv rfl ?_
      refine S_mv rfl ?_
      refine S_addN (265 + c) rfl rfl (by omega) (by omega) ?_
      first | refine S_ixn T.el56 rfl rfl (by omega) ?_ | refine S_ix1 T.el56 rfl rfl (by omega) (by omega) ?_ | refine S_ix T.el56 rfl rfl (by omega) (by omega) ?_
      refine S_st T.sz3 rfl rfl rfl rfl (by simp (disch := omega) only [hop]) ?_
      generalize hh : putH _ _ _ = h1
      have bph1 : B h1 h.size (ia 273 (Huf.ups A (265 + c) (3))) 3 := by rw [← hh]; exact ia_put bk _ _
      have hEh1 : Ext (fun _ => False) h h1 := by rw [← hh]; exact hEk.putn (Nat.le_refl _)
      clear hh
      refine S_nilk [1, 3] (by simp only [proj, lk, reduceIte, Nat.reduceEqDiff]; rfl) ?_
      refine hK14 _ _ ?_; clear hK14
      refine V_reg T.mix (by kernel_rfl) ?_
      refine S_mv rfl ?_
      first | refine S_add rfl rfl (by omega) (by omega) ?_ | refine S_bin rfl rfl rfl ?_
      refine S_as rfl ?_
      refine S_nilk [1, 3] (by simp only [proj, lk, reduceIte, Nat.reduceEqDiff]; rfl) ?_
      exact hK11 _ _ ⟨_, by omega, c + 1, h1, Huf.ups A (265 + c) 3, by omega, bph1, fun j hj => by by_cases e : j = 265 + c; (rw [e, Huf.ups_eq, fix_at (by omega), if_neg (by omega), if_neg (by omega)]); (rw [Huf.ups_ne _ _ e]; exact hA j (by omega)), hEh1, rfl, rfl, rfl⟩
    · skip
      refine V_exitk [1] rfl (by simp only [proj, lk, reduceIte, Nat.reduceEqDiff]; rfl) ?_
      refine hK9 _ _ ?_; clear hK9
      refine V_sr T.mix (by kernel_rfl) (fun K15 hK15 => ?_)
      refine S_mv rfl ?_
      refine S_as rfl ?_
      refine S_nil (hK15 _ _ (V_keep [0] (by simp only [proj, lk, reduceIte, Nat.reduceEqDiff]; rfl) ?_)); clear hK15
      refine V_ret ?_
      refine hR _ _ (ret1 rfl rfl ?_)
      exact ⟨rfl, ia_cong bk (fun j hj => hA j (by omega)), hEk⟩
set_option maxHeartbeats 400000 in
theorem symbol_spec (h : Heap) (M : Nat) (ta : Option Addr) (tc : Nat) (s : TS) (mt : BitW.MT h M ta tc s) (A : Nat) (la cb : Option Addr) (lf : Nat → Nat) (N : Nat) (k : MK h A la cb lf N) :
    FC Tryz.prog 150 (#[.pointer (some ⟨M, 0, none⟩), .pointer (some ⟨A, 0, none⟩)] : Array Value) h fun rv h' => rv = .tuple #[.int .i64 (((syF s lf N).v : Nat) : Int), .int .i64 (((syF s lf N).e : Nat) : Int)] ∧ ∃ ta' tc', BitW.MT h' M ta' tc' (syF s lf N).s ∧ BitW.MEx M h h' ta ta' := by
  refine FC_of [(0, .pointer (some ⟨M, 0, none⟩)), (1, .pointer (some ⟨A, 0, none⟩))] Tryz.func150 rfl Tryz.ntmps150 (by simp) rfl (fun R hR => ?_)
  refine V_sr T.mix (by kernel_rfl) (fun K1 hK1 => ?_)
  refine S_as rfl ?_
  refine S_as rfl ?_
  refine S_nil (hK1 _ _ (V_keep [0, 1] (by simp only [proj, lk, reduceIte, Nat.reduceEqDiff]; rfl) ?_)); clear hK1
  refine V_sr T.mix (by kernel_rfl) (fun K2 hK2 => ?_)
  refine S_mv rfl ?_
  refine S_call T.hb118 rfl ?_
  refine FC.mono (BitW.mpeek_spec h M ta tc s mt 10) ?_
  rintro v' h' ⟨rfl, rfl⟩
  refine S_mv rfl ?_
  refine S_ex rfl rfl ?_
  refine S_ex rfl rfl ?_
  refine S_as rfl ?_
  refine S_as rfl ?_
  refine S_nil (hK2 _ _ (V_keep [0, 1, 6, 7] (by simp only [proj, lk, reduceIte, Nat.reduceEqDiff]; rfl) ?_)); clear hK2
  refine V_sr T.mix (by kernel_rfl) (fun K3 hK3 => ?_)
  refine S_mv rfl ?_
  refine S_mv rfl ?_
  refine S_mv rfl ?_
  refine S_call T.hb176 rfl ?_
  refine FC.mono (mfind_spec h A la cb lf N k ((peekV s 10 : Nat) : Int) ((gotF s 10 : Nat) : Int)) ?_
  rintro v' h' ⟨hv', rfl⟩
  obtain ⟨q, hq⟩ : ∃ q, q = syQ s lf N := ⟨_, rfl⟩
  have hv2 : v' = tri q := by rw [hq]; exact hv'
  clear hv'
  subst hv2
  unfold tri
  have hsy : syF s lf N = if q.2.2 ≠ 0 then ⟨0, q.2.2, s⟩ else ⟨q.1, 0, skipS s (q.2.1 : Int)⟩ := by unfold syF; rw [← hq]
  refine S_mv rfl ?_
  refine S_ex rfl rfl ?_
  refine S_ex rfl rfl ?_
  refine S_ex rfl rfl ?_
  refine S_as rfl ?_
  refine S_as rfl ?_
  refine S_as rfl ?_
  refine S_nil (hK3 _ _ (V_keep [0, 8, 9, 10] (by simp only [proj, lk, reduceIte, Nat.reduceEqDiff]; rfl) ?_)); clear hK3
  refine V_seq (fun K4 hK4 => ?_)
  refine V_sr T.mix (by kernel_rfl) (fun K5 hK5 => ?_)
  refine S_mv rfl ?_
  refine S_bin rfl rfl rfl ?_
  refine S_nil (hK5 _ _ (V_keep [0, 8, 9, 10, 25] (by simp only [proj, lk, reduceIte, Nat.reduceEqDiff]; rfl) ?_)); clear hK5
  refine V_condp rfl (fun c102 => ?_) (fun c102 => ?_)
  · skip
    refine V_sr T.mix (by kernel_rfl) (fun K6 hK6 => ?_)
    refine S_mv rfl ?_
    refine S_as rfl ?_
    refine S_as rfl ?_
    refine S_nil (hK6 _ _ (V_keep [4, 5] (by simp only [proj, lk, reduceIte, Nat.reduceEqDiff]; rfl) ?_)); clear hK6
    refine V_ret ?_
    refine hR _ _ (ret2 rfl rfl rfl ?_)
    rw [hsy, if_pos (by omega)]
    exact ⟨rfl, ta, tc, mt, BitW.MEx.refl _ _ _⟩
  · skip
    refine V_skipk [0, 8, 9] (by simp only [proj, lk, reduceIte, Nat.reduceEqDiff]; rfl) ?_
    refine hK4 _ _ ?_; clear hK4
    refine V_sr T.mix (by kernel_rfl) (fun K7 hK7 => ?_)
    refine S_mv rfl ?_
    refine S_mv rfl ?_
    refine S_call T.hb119 rfl ?_
    refine FC.mono (BitW.mskip_spec h M ta tc s mt (q.2.1 : Int)) ?_
    rintro v' h1 ⟨rfl, ta1, tc1, mt1, mx1⟩
    refine S_nil (hK7 _ _ (V_keep [8] (by simp only [proj, lk, reduceIte, Nat.reduceEqDiff]; rfl) ?_)); clear hK7
    refine V_sr T.mix (by kernel_rfl) (fun K8 hK8 => ?_)
    refine S_mv rfl ?_
    refine S_as rfl ?_
    refine S_as rfl ?_
    refine S_nil (hK8 _ _ (V_keep [4, 5] (by simp only [proj, lk, reduceIte, Nat.reduceEqDiff]; rfl) ?_)); clear hK8
    refine V_ret ?_
    refine hR _ _ (ret2 rfl rfl rfl ?_)
    rw [hsy, if_neg (by omega)]
    exact ⟨rfl, ta1, tc1, mt1, mx1⟩
end Go.Proofs.Qxb6500404aGreat
