import Derived.Test.Qxb6500402aWe
set_option linter.unusedVariables false
set_option linter.unusedSimpArgs false
namespace Go.Proofs.Qxb6500402a
open Go.Eng Go.Trl

theorem app_facts {L : List It} {x : It} (hn : New L (vr x.lit)) : atL (L ++ [x]) (L.length : Int) = x.lit ∧ levV (L ++ [x]) (x.lit.natAbs : Int) = x.lev ∧ reaV (L ++ [x]) (x.lit.natAbs : Int) = x.rea := by
  refine ⟨?_, ?_, ?_⟩
  · unfold atL; rw [if_pos (by simp; omega)]; simp
  · rw [levV_app hn, if_pos (vr_abs _).symm]
  · rw [reaV_app hn, if_pos (vr_abs _).symm]
theorem st_dec {s : TS} {k oa ob : Int} (h : k = 2) (hd : dueF s k oa ob = 0) : good oa ∧ New s.L (vr oa) ∧ stepS s k oa ob = ⟨s.L ++ [⟨oa, s.k + 1, -1⟩], s.k + 1, s.c⟩ := by
  subst h
  unfold dueF at hd; simp at hd
  have := decE_ok (s := s) (lt := oa) (by omega)
  refine ⟨this.1, this.2, ?_⟩
  unfold stepS decS; simp; intro h; omega
theorem st_asg {s : TS} {k oa ob : Int} (h : k = 3) (hd : dueF s k oa ob = 0) : good oa ∧ New s.L (vr oa) ∧ stepS s k oa ob = ⟨s.L ++ [⟨oa, s.k, ob⟩], s.k, s.c⟩ := by
  subst h
  unfold dueF at hd; simp at hd
  have := asgE_ok (s := s) (lt := oa) (r := ob) (by omega)
  refine ⟨this.1, this.2.2, ?_⟩
  unfold stepS asgS; simp; intro h; omega
theorem st_bj {s : TS} {k oa ob : Int} (h : k = 4) (hd : dueF s k oa ob = 0) : 0 ≤ oa ∧ oa ≤ s.k ∧ stepS s k oa ob = ⟨backL s.L oa, oa.toNat, min s.c (cnt s.L (oa + 1))⟩ := by
  subst h
  unfold dueF at hd; simp at hd
  have hb : bjE s oa = 0 := by omega
  have hb2 := hb
  unfold bjE at hb2
  split at hb2
  · cases hb2
  · refine ⟨by omega, by omega, ?_⟩
    unfold stepS bjS; simp; intro h; omega
theorem st_take {s : TS} {k oa ob : Int} (h : k = 5) : stepS s k oa ob = takeS s := by subst h; unfold stepS; simp
theorem st_oth {s : TS} {k oa ob : Int} (h : k ≠ 1 ∧ k ≠ 2 ∧ k ≠ 3 ∧ k ≠ 4 ∧ k ≠ 5) : stepS s k oa ob = s := by
  unfold stepS; rw [if_neg h.1, if_neg h.2.1, if_neg h.2.2.1, if_neg h.2.2.2.1, if_neg h.2.2.2.2]
theorem backL_len {L : List It} {j : Int} : (backL L j).length = cnt L (j + 1) := by unfold backL; rw [List.length_take]; have := cnt_le L (j + 1); omega

def WEx (X : Nat) (F F' : Nat → Prop) (h h' : Heap) : Prop := Ext (fun c => c = X ∨ F c) h h' ∧ ∀ c, F' c → F c ∨ h.size ≤ c
theorem WEx.refl (X : Nat) (F : Nat → Prop) (h : Heap) : WEx X F F h h := ⟨Ext.refl _ _, fun _ hb => .inl hb⟩
theorem WEx.quiet {X : Nat} {F : Nat → Prop} {h h' : Heap} (he : Ext (fun _ => False) h h') : WEx X F F h h' := ⟨he.mono fun _ f => f.elim, fun _ hb => .inl hb⟩
theorem WEx.trans {X : Nat} {F F1 F2 : Nat → Prop} {h h1 h2 : Heap} (e1 : WEx X F F1 h h1) (e2 : WEx X F1 F2 h1 h2) : WEx X F F2 h h2 := by
  refine ⟨e1.1.step e2.1 fun c hb hs => ?_, fun c hb => ?_⟩
  · rcases hs with hs | hs
    · exact .inl hs
    · rcases e1.2 c hs with e | e
      · exact .inr e
      · omega
  · rcases e2.2 c hb with e | e
    · exact e1.2 c e
    · have := e1.1.1; exact .inr (by omega)
theorem WEx.real {X : Nat} {F : Nat → Prop} {h h' : Heap} (he : Ext (fun x => x = X) h h') : WEx X F F h h' := ⟨he.mono fun _ e => .inl e, fun _ hb => .inl hb⟩
theorem WEx.model {X : Nat} {F F' : Nat → Prop} {h h' : Heap} (he : MX F F' h h') : WEx X F F' h h' := ⟨he.1.mono fun _ e => .inr e, he.2⟩
structure WJ (base : Nat) (h : Heap) (X M : Nat) (F : Nat → Prop) (s t : TS) (p : Nat) : Prop where
  r : RS h X s p
  m : MS h M F t
  d : ¬ F X
  lo : base ≤ X ∧ ∀ b, F b → base ≤ b
  pb : p ≤ 1000000000000000
section wj
variable {base : Nat} {h h' : Heap} {X M : Nat} {F F' : Nat → Prop} {s t s' t' : TS} {p p' : Nat}
theorem WJ.hb (w : WJ base h X M F s t p) : base ≤ h.size := by have := w.r.lt; have := w.lo.1; omega
theorem WJ.nin (w : WJ base h X M F s t p) {c : Nat} (hc : h.size ≤ c) : c ≠ X ∧ ¬ F c := by
  have := w.r.lt
  exact ⟨by omega, fun e => by have := w.m.lt e; omega⟩
theorem WJ.ext {S : Nat → Prop} (w : WJ base h X M F s t p) (he : Ext S h h') (hS : ∀ c, S c → c ≠ X ∧ ¬ F c) : WJ base h' X M F s t p :=
  ⟨w.r.ext he (fun e => (hS _ e).1 rfl), w.m.ext he (fun b hb e => (hS b e).2 hb), w.d, w.lo, w.pb⟩
theorem WJ.real (w : WJ base h X M F s t p) (r' : RS h' X s' p) (he : Ext (fun x => x = X) h h') : WJ base h' X M F s' t p :=
  ⟨r', w.m.ext he (fun b hb e => w.d (e ▸ hb)), w.d, w.lo, w.pb⟩
theorem WJ.model (w : WJ base h X M F s t p) (m' : MS h' M F' t') (he : MX F F' h h') : WJ base h' X M F' s t' p := by
  have hlt := w.r.lt
  have hb := w.hb
  refine ⟨w.r.ext he.1 w.d, m', fun e => ?_, ⟨w.lo.1, fun b e => ?_⟩, w.pb⟩
  · rcases he.2 X e with x | x
    · exact w.d x
    · omega
  · rcases he.2 b e with x | x
    · exact w.lo.2 b x
    · omega
theorem WEx.low (w : WJ base h X M F s t p) (he : WEx X F F' h h') : Ext (fun c => base ≤ c) h h' := he.1.mono fun c e => by
  rcases e with e | e
  · have := w.lo.1; omega
  · exact w.lo.2 c e
end wj
theorem sp1 {s : TS} {k oa ob : Int} (h : k = 1) : stepS s k oa ob = ⟨[], 0, 0⟩ := by unfold stepS; rw [if_pos h]
theorem sp2 {s : TS} {k oa ob : Int} (h : k = 2) : stepS s k oa ob = decS s oa ∧ dueF s k oa ob = (decE s oa : Int) := by subst h; unfold stepS dueF; simp
theorem sp3 {s : TS} {k oa ob : Int} (h : k = 3) : stepS s k oa ob = asgS s oa ob ∧ dueF s k oa ob = (asgE s oa ob : Int) := by subst h; unfold stepS dueF; simp
theorem sp4 {s : TS} {k oa ob : Int} (h : k = 4) : stepS s k oa ob = bjS s oa ∧ dueF s k oa ob = (bjE s oa : Int) := by subst h; unfold stepS dueF; simp
theorem sp5 {s : TS} {k oa ob : Int} (h : k = 5) : stepS s k oa ob = takeS s ∧ dueF s k oa ob = takeV s := by subst h; unfold stepS dueF; simp
def popF (s : TS) (k oa ob : Int) (p : Nat) : Nat := if k = 4 ∨ k = 1 then p + (s.L.length - (stepS s k oa ob).L.length) else p
set_option maxHeartbeats 3200000 in
theorem does_spec (h : Heap) (W : Nat) (G : Nat → Prop) (s : TS) (ws : MS h W G s) (M : Nat) (F : Nat → Prop) (s2 : TS) (ms : MS h M F s2) (k oa ob oc : Int) (os ot : ByteArray) (due : Int) (hs2 : s2 = stepS s k oa ob) (hdue : due = dueF s k oa ob) :
    FC Try.prog 17 (#[.pointer (some ⟨W, 0, none⟩), .pointer (some ⟨M, 0, none⟩), .agg #[.int .i64 k, .int .i64 oa, .int .i64 ob, .int .i64 oc, .string os, .string ot], .int .i64 due] : Array Value) h fun rv h' => rv = .bool true ∧ Ext (fun _ => False) h h' := by
  have hlen := TI.len ws.ok
  have hlen2 := TI.len ms.ok
  have hcc := ws.ok.c
  have hdep := TI.dep ws.ok
  refine FC_of [(0, .pointer (some ⟨W, 0, none⟩)), (1, .pointer (some ⟨M, 0, none⟩)), (2, .agg #[.int .i64 k, .int .i64 oa, .int .i64 ob, .int .i64 oc, .string os, .string ot]), (3, .int .i64 due)] Try.func17 rfl Try.ntmps17 (by simp) rfl (fun R hR => ?_)
  refine V_sr T.mix (by kernel_rfl) (fun K1 hK1 => ?_)
  refine S_boxA rfl ?_
  generalize hh : Array.push h _ = h1
  have o : B h1 h.size #[.int .i64 k, .int .i64 oa, .int .i64 ob, .int .i64 oc, .string os, .string ot] 36 := by rw [← hh]; exact B.new _ _ _
  have hEh1 : Ext (fun _ => False) h h1 := by rw [← hh]; exact Ext.push _ _ _
  clear hh
  have o0 : cellH h1 ⟨h.size, 0, none⟩ = some (.int .i64 k) := o.cell 0
  have o1 : cellH h1 ⟨h.size, 1, none⟩ = some (.int .i64 oa) := o.cell 1
  have o2 : cellH h1 ⟨h.size, 2, none⟩ = some (.int .i64 ob) := o.cell 2
  replace ws := ws.ext hEh1 (fun _ _ f => f)
  replace ms := ms.ext hEh1 (fun _ _ f => f)
  refine S_as rfl ?_
  refine S_nil (hK1 _ _ (V_keep [0, 1, 3, 6] (by simp only [proj, lk, reduceIte, Nat.reduceEqDiff]; rfl) ?_)); clear hK1
  refine V_sr T.mix (by kernel_rfl) (fun K2 hK2 => ?_)
  refine S_mv rfl ?_
  refine S_call T.hb13 rfl ?_
  refine FC.mono (mlen_spec h1 W G s ws) ?_
  rintro v' h' ⟨rfl, rfl⟩
  refine S_as rfl ?_
  refine S_nil (hK2 _ _ (V_keep [0, 1, 3, 6, 9] (by simp only [proj, lk, reduceIte, Nat.reduceEqDiff]; rfl) ?_)); clear hK2
  refine V_sr T.mix (by kernel_rfl) (fun K3 hK3 => ?_)
  refine S_mv rfl ?_
  refine S_call T.hb24 rfl ?_
  refine FC.mono (mlevel_spec h1 W G s ws) ?_
  rintro v' h' ⟨rfl, rfl⟩
  refine S_as rfl ?_
  refine S_nil (hK3 _ _ (V_keep [0, 1, 3, 6, 9, 10] (by simp only [proj, lk, reduceIte, Nat.reduceEqDiff]; rfl) ?_)); clear hK3
  refine V_sr T.mix (by kernel_rfl) (fun K4 hK4 => ?_)
  refine S_mv rfl ?_
  refine S_mv rfl ?_
  refine S_call T.hb25 rfl ?_
  refine FC.mono (mpending_spec h1 W G s ws) ?_
  rintro v' h' ⟨rfl, rfl⟩
  refine S_subN s.c rfl rfl (by omega) (by omega) ?_
  refine S_as rfl ?_
  refine S_nil (hK4 _ _ (V_keep [0, 1, 3, 6, 9, 10, 11] (by simp only [proj, lk, reduceIte, Nat.reduceEqDiff]; rfl) ?_)); clear hK4
  refine V_seqJ (fun l h' => ∃ (cv : Int), (s2.L = s.L ∧ (s2.k : Int) = s.k ∧ (s2.c : Int) = cv) ∧ l = [(0, .pointer (some ⟨W, 0, none⟩)), (1, .pointer (some ⟨M, 0, none⟩)), (9, .int .i64 (s.L.length : Int)), (10, .int .i64 (s.k : Int)), (11, .int .i64 cv)] ∧ h1 = h') ?_ ?_
  · skip
    refine V_sr T.mix (by kernel_rfl) (fun K6 hK6 => ?_)
    first | refine S_fa0 T.f36_0 rfl ?_ | refine S_fa T.f36_0 rfl ?_
    refine S_ldK T.ag3 rfl (fun K' hK' => ?_)
    simp (disch := omega) only [o0, o1, o2, oP_some, Nat.add_zero]
    refine hK' _ ?_; clear hK' K'
    refine S_nil (hK6 _ _ (V_keep [0, 1, 3, 6, 9, 10, 11, 26] (by simp only [proj, lk, reduceIte, Nat.reduceEqDiff]; rfl) ?_)); clear hK6
    refine V_block ?_
    refine V_sr T.mix (by kernel_rfl) (fun K7 hK7 => ?_)
    refine S_bin rfl rfl rfl ?_
    refine S_as rfl ?_
    refine S_nil (hK7 _ _ (V_keep [0, 1, 3, 6, 9, 10, 11, 26, 27] (by simp only [proj, lk, reduceIte, Nat.reduceEqDiff]; rfl) ?_)); clear hK7
    refine V_condp rfl (fun c85 => ?_) (fun c85 => ?_)
    · skip
      have e2 : s2 = ⟨[], 0, 0⟩ := by rw [hs2]; unfold stepS; rw [if_pos c85]
      refine V_sr T.mix (by kernel_rfl) (fun K8 hK8 => ?_)
      refine S_mv rfl ?_
      refine S_call T.hb40 rfl ?_
      refine FC.mono (shape_spec h1 M F s2 ms _ _ _ (by rw [e2]; rfl) (by rw [e2]; rfl) (by rw [e2]; rfl)) ?_
      rintro v' h' ⟨rfl, rfl⟩
      refine S_as rfl ?_
      refine S_nil (hK8 _ _ (V_keep [8] (by simp only [proj, lk, reduceIte, Nat.reduceEqDiff]; rfl) ?_)); clear hK8
      refine V_ret ?_
      refine hR _ _ (ret1 rfl rfl ?_)
      exact ⟨rfl, hEh1⟩
    · skip
      refine V_seq (fun K9 hK9 => ?_)
      refine V_sr T.mix (by kernel_rfl) (fun K10 hK10 => ?_)
      refine S_bin rfl rfl rfl ?_
      refine S_as rfl ?_
      refine S_nil (hK10 _ _ (V_keep [0, 1, 3, 6, 9, 10, 11, 26, 31] (by simp only [proj, lk, reduceIte, Nat.reduceEqDiff]; rfl) ?_)); clear hK10
      refine V_condp rfl (fun c87 => ?_) (fun c87 => ?_)
      · skip
        refine V_skipk [0, 1, 3, 6, 9, 10, 11, 26, 31] (by simp only [proj, lk, reduceIte, Nat.reduceEqDiff]; rfl) ?_
        refine hK9 _ _ ?_; clear hK9
        refine V_condp rfl (fun c87a => ?_) (fun c87a => ?_)
        · skip
          refine V_seq (fun K11 hK11 => ?_)
          refine V_sr T.mix (by kernel_rfl) (fun K12 hK12 => ?_)
          refine S_mv rfl ?_
          refine S_bin rfl rfl rfl ?_
          refine S_nil (hK12 _ _ (V_keep [0, 1, 6, 9, 10, 11, 35] (by simp only [proj, lk, reduceIte, Nat.reduceEqDiff]; rfl) ?_)); clear hK12
          refine V_condp rfl (fun c88 => ?_) (fun c88 => ?_)
          · skip
            refine V_exitk [0, 1, 9, 10, 11] rfl (by simp only [proj, lk, reduceIte, Nat.reduceEqDiff]; rfl) ?_
            exact ⟨(s.c : Int), by rw [hs2, stepS_err (by omega) (by omega)]; exact ⟨rfl, rfl, rfl⟩, rfl, rfl⟩
          · skip
            obtain ⟨hgl, hnw, e2⟩ := st_dec (s := s) (oa := oa) (ob := ob) c87 (by omega)
            rw [← hs2] at e2
            have hgl2 := hgl
            unfold good at hgl2
            have hap := app_facts (L := s.L) (x := ⟨oa, s.k + 1, -1⟩) hnw
            refine V_skipk [0, 1, 6, 9, 10, 11] (by simp only [proj, lk, reduceIte, Nat.reduceEqDiff]; rfl) ?_
            refine hK11 _ _ ?_; clear hK11
            refine V_sr T.mix (by kernel_rfl) (fun K13 hK13 => ?_)
            first | refine S_fa0 T.f36_2 rfl ?_ | refine S_fa T.f36_2 rfl ?_
            refine S_ldK T.ag3 rfl (fun K' hK' => ?_)
            simp (disch := omega) only [o0, o1, o2, oP_some, Nat.add_zero]
            refine hK' _ ?_; clear hK' K'
            refine S_as rfl ?_
            refine S_nil (hK13 _ _ (V_keep [0, 1, 6, 9, 10, 11, 12] (by simp only [proj, lk, reduceIte, Nat.reduceEqDiff]; rfl) ?_)); clear hK13
            refine V_seq (fun K14 hK14 => ?_)
            refine V_sr T.mix (by kernel_rfl) (fun K15 hK15 => ?_)
            first | refine S_fa0 T.f36_0 rfl ?_ | refine S_fa T.f36_0 rfl ?_
            refine S_ldK T.ag3 rfl (fun K' hK' => ?_)
            simp (disch := omega) only [o0, o1, o2, oP_some, Nat.add_zero]
            refine hK' _ ?_; clear hK' K'
            refine S_bin rfl rfl rfl ?_
            refine S_nil (hK15 _ _ (V_keep [0, 1, 6, 9, 10, 11, 12, 40] (by simp only [proj, lk, reduceIte, Nat.reduceEqDiff]; rfl) ?_)); clear hK15
            refine V_condp rfl (fun c92 => ?_) (fun c92 => ?_)
            · skip
              refine V_sr T.mix (by kernel_rfl) (fun K16 hK16 => ?_)
              refine S_mv rfl ?_
              first | refine S_add rfl rfl (by omega) (by omega) ?_ | refine S_bin rfl rfl rfl ?_
              refine S_as rfl ?_
              refine S_nil (hK16 _ _ (V_keep [0, 1, 6, 9, 10, 11] (by simp only [proj, lk, reduceIte, Nat.reduceEqDiff]; rfl) ?_)); clear hK16
              refine V_reg T.mix (by kernel_rfl) ?_
              refine S_as rfl ?_
              refine S_nilk [0, 1, 6, 9, 10, 11, 12] (by simp only [proj, lk, reduceIte, Nat.reduceEqDiff]; rfl) ?_
              refine hK14 _ _ ?_; clear hK14
              refine V_seq (fun K17 hK17 => ?_)
              refine V_sr T.mix (by kernel_rfl) (fun K18 hK18 => ?_)
              refine S_mv rfl ?_
              refine S_mv rfl ?_
              first | refine S_add rfl rfl (by omega) (by omega) ?_ | refine S_bin rfl rfl rfl ?_
              refine S_mv rfl ?_
              refine S_mv rfl ?_
              refine S_call T.hb40 rfl ?_
              refine FC.mono (shape_spec h1 M F s2 ms _ _ _ (by rw [e2]; simp) (by rw [e2]; simp) (by rw [e2])) ?_
              rintro v' h' ⟨rfl, rfl⟩
              refine S_notb rfl ?_
              refine S_nil (hK18 _ _ (V_keep [0, 1, 6, 9, 10, 12, 49] (by simp only [proj, lk, reduceIte, Nat.reduceEqDiff]; rfl) ?_)); clear hK18
              refine V_condb rfl (fun c96 => ?_) (fun c96 => ?_)
              · skip
                cases c96
              · skip
                refine V_skipk [0, 1, 6, 9, 10, 12] (by simp only [proj, lk, reduceIte, Nat.reduceEqDiff]; rfl) ?_
                refine hK17 _ _ ?_; clear hK17
                refine V_seq (fun K19 hK19 => ?_)
                refine V_sr T.mix (by kernel_rfl) (fun K20 hK20 => ?_)
                refine S_mv rfl ?_
                refine S_mv rfl ?_
                refine S_mv rfl ?_
                refine S_call T.hb41 rfl ?_
                refine FC.mono (prefix_spec h1 W G s ws M F s2 ms s.L.length (Pre.app s s2 _ (by rw [e2])) (by omega)) ?_
                rintro v' h' ⟨rfl, rfl⟩
                refine S_notb rfl ?_
                refine S_nil (hK20 _ _ (V_keep [1, 6, 9, 10, 12, 54] (by simp only [proj, lk, reduceIte, Nat.reduceEqDiff]; rfl) ?_)); clear hK20
                refine V_condb rfl (fun c99 => ?_) (fun c99 => ?_)
                · skip
                  cases c99
                · skip
                  refine V_skipk [1, 6, 9, 10, 12] (by simp only [proj, lk, reduceIte, Nat.reduceEqDiff]; rfl) ?_
                  refine hK19 _ _ ?_; clear hK19
                  refine V_sr T.mix (by kernel_rfl) (fun K21 hK21 => ?_)
                  first | refine S_fa0 T.f36_1 rfl ?_ | refine S_fa T.f36_1 rfl ?_
                  refine S_ldK T.ag3 rfl (fun K' hK' => ?_)
                  simp (disch := omega) only [o0, o1, o2, oP_some, Nat.add_zero]
                  refine hK' _ ?_; clear hK' K'
                  refine S_call T.hb42 rfl ?_
                  refine FC.mono (var_spec _ oa (by omega) (by omega)) ?_
                  rintro v' h' ⟨rfl, rfl⟩
                  refine S_as rfl ?_
                  refine S_nil (hK21 _ _ (V_keep [1, 6, 9, 10, 12, 13] (by simp only [proj, lk, reduceIte, Nat.reduceEqDiff]; rfl) ?_)); clear hK21
                  refine V_seq (fun K22 hK22 => ?_)
                  refine V_srM #[0, 1, 4, 2, 3, 5] [0, 1, 3, 4] 2 [5] T.mix (by kernel_rfl) rfl ⟨rfl, rfl⟩ (fun K23 hK23 => ?_)
                  refine S_mv rfl ?_
                  refine S_mv rfl ?_
                  first | refine S_fa0 T.f36_1 rfl ?_ | refine S_fa T.f36_1 rfl ?_
                  refine S_ldK T.ag3 rfl (fun K' hK' => ?_)
                  simp (disch := omega) only [o0, o1, o2, oP_some, Nat.add_zero]
                  refine hK' _ ?_; clear hK' K'
                  refine S_nil ?_
                  refine SM_call T.hb26 rfl ?_
                  refine FC.mono (mat_spec h1 M F s2 ms _) ?_
                  rintro v' h' ⟨rfl, rfl⟩
                  first | refine ⟨Grows.refl _, ?_⟩ | refine ⟨Grows.of_ext (by assumption), ?_⟩
                  refine S_bin rfl rfl rfl ?_
                  refine S_nil (hK23 _ _ (V_keep [1, 10, 12, 13, 63] (by simp only [proj, lk, reduceIte, Nat.reduceEqDiff]; rfl) ?_)); clear hK23
                  refine V_condp rfl (fun c103 => ?_) (fun c103 => ?_)
                  · skip
                    exfalso; rw [e2] at c103; exact c103 hap.1
                  · skip
                    refine V_skipk [1, 10, 12, 13] (by simp only [proj, lk, reduceIte, Nat.reduceEqDiff]; rfl) ?_
                    refine hK22 _ _ ?_; clear hK22
                    refine V_seq (fun K24 hK24 => ?_)
                    refine V_sr T.mix (by kernel_rfl) (fun K25 hK25 => ?_)
                    refine S_mv rfl ?_
                    refine S_mv rfl ?_
                    refine S_call T.hb43 rfl ?_
                    refine FC.mono (mlevelof_spec h1 M F s2 ms _) ?_
                    rintro v' h' ⟨rfl, rfl⟩
                    refine S_mv rfl ?_
                    refine S_bin rfl rfl rfl ?_
                    refine S_nil (hK25 _ _ (V_keep [1, 12, 13, 68] (by simp only [proj, lk, reduceIte, Nat.reduceEqDiff]; rfl) ?_)); clear hK25
                    refine V_condp rfl (fun c106 => ?_) (fun c106 => ?_)
                    · skip
                      exfalso; rw [e2] at c106; exact c106 (by rw [hap.2.1])
                    · skip
                      refine V_skipk [1, 12, 13] (by simp only [proj, lk, reduceIte, Nat.reduceEqDiff]; rfl) ?_
                      refine hK24 _ _ ?_; clear hK24
                      refine V_sr T.mix (by kernel_rfl) (fun K26 hK26 => ?_)
                      refine S_mv rfl ?_
                      refine S_mv rfl ?_
                      refine S_call T.hb44 rfl ?_
                      refine FC.mono (mreason_spec h1 M F s2 ms _) ?_
                      rintro v' h' ⟨rfl, rfl⟩
                      refine S_mv rfl ?_
                      refine S_bin rfl rfl rfl ?_
                      refine S_as rfl ?_
                      refine S_nil (hK26 _ _ (V_keep [8] (by simp only [proj, lk, reduceIte, Nat.reduceEqDiff]; rfl) ?_)); clear hK26
                      refine V_ret ?_
                      refine hR _ _ (ret1 rfl rfl ?_)
                      exact ⟨by rw [e2, hap.2.2]; simp, hEh1⟩
            · skip
              exfalso; omega
        · skip
          exfalso; omega
      · skip
        refine V_reg T.mix (by kernel_rfl) ?_
        refine S_bin rfl rfl rfl ?_
        refine S_as rfl ?_
        refine S_nilk [0, 1, 3, 6, 9, 10, 11, 26, 31] (by simp only [proj, lk, reduceIte, Nat.reduceEqDiff]; rfl) ?_
        refine hK9 _ _ ?_; clear hK9
        refine V_condp rfl (fun c87b => ?_) (fun c87b => ?_)
        · skip
          refine V_seq (fun K27 hK27 => ?_)
          refine V_sr T.mix (by kernel_rfl) (fun K28 hK28 => ?_)
          refine S_mv rfl ?_
          refine S_bin rfl rfl rfl ?_
          refine S_nil (hK28 _ _ (V_keep [0, 1, 6, 9, 10, 11, 35] (by simp only [proj, lk, reduceIte, Nat.reduceEqDiff]; rfl) ?_)); clear hK28
          refine V_condp rfl (fun c88a => ?_) (fun c88a => ?_)
          · skip
            refine V_exitk [0, 1, 9, 10, 11] rfl (by simp only [proj, lk, reduceIte, Nat.reduceEqDiff]; rfl) ?_
            exact ⟨(s.c : Int), by rw [hs2, stepS_err (by omega) (by omega)]; exact ⟨rfl, rfl, rfl⟩, rfl, rfl⟩
          · skip
            obtain ⟨hgl, hnw, e2⟩ := st_asg (s := s) (oa := oa) (ob := ob) c87b (by omega)
            rw [← hs2] at e2
            have hgl2 := hgl
            unfold good at hgl2
            have hap := app_facts (L := s.L) (x := ⟨oa, s.k, ob⟩) hnw
            refine V_skipk [0, 1, 6, 9, 10, 11] (by simp only [proj, lk, reduceIte, Nat.reduceEqDiff]; rfl) ?_
            refine hK27 _ _ ?_; clear hK27
            refine V_sr T.mix (by kernel_rfl) (fun K29 hK29 => ?_)
            first | refine S_fa0 T.f36_2 rfl ?_ | refine S_fa T.f36_2 rfl ?_
            refine S_ldK T.ag3 rfl (fun K' hK' => ?_)
            simp (disch := omega) only [o0, o1, o2, oP_some, Nat.add_zero]
            refine hK' _ ?_; clear hK' K'
            refine S_as rfl ?_
            refine S_nil (hK29 _ _ (V_keep [0, 1, 6, 9, 10, 11, 12] (by simp only [proj, lk, reduceIte, Nat.reduceEqDiff]; rfl) ?_)); clear hK29
            refine V_seq (fun K30 hK30 => ?_)
            refine V_sr T.mix (by kernel_rfl) (fun K31 hK31 => ?_)
            first | refine S_fa0 T.f36_0 rfl ?_ | refine S_fa T.f36_0 rfl ?_
            refine S_ldK T.ag3 rfl (fun K' hK' => ?_)
            simp (disch := omega) only [o0, o1, o2, oP_some, Nat.add_zero]
            refine hK' _ ?_; clear hK' K'
            refine S_bin rfl rfl rfl ?_
            refine S_nil (hK31 _ _ (V_keep [0, 1, 6, 9, 10, 11, 12, 40] (by simp only [proj, lk, reduceIte, Nat.reduceEqDiff]; rfl) ?_)); clear hK31
            refine V_condp rfl (fun c92a => ?_) (fun c92a => ?_)
            · skip
              exfalso; omega
            · skip
              refine V_skipk [0, 1, 6, 9, 10, 11, 12] (by simp only [proj, lk, reduceIte, Nat.reduceEqDiff]; rfl) ?_
              refine hK30 _ _ ?_; clear hK30
              refine V_seq (fun K32 hK32 => ?_)
              refine V_sr T.mix (by kernel_rfl) (fun K33 hK33 => ?_)
              refine S_mv rfl ?_
              refine S_mv rfl ?_
              first | refine S_add rfl rfl (by omega) (by omega) ?_ | refine S_bin rfl rfl rfl ?_
              refine S_mv rfl ?_
              refine S_mv rfl ?_
              refine S_call T.hb40 rfl ?_
              refine FC.mono (shape_spec h1 M F s2 ms _ _ _ (by rw [e2]; simp) (by rw [e2]) (by rw [e2])) ?_
              rintro v' h' ⟨rfl, rfl⟩
              refine S_notb rfl ?_
              refine S_nil (hK33 _ _ (V_keep [0, 1, 6, 9, 10, 12, 49] (by simp only [proj, lk, reduceIte, Nat.reduceEqDiff]; rfl) ?_)); clear hK33
              refine V_condb rfl (fun c96a => ?_) (fun c96a => ?_)
              · skip
                cases c96a
              · skip
                refine V_skipk [0, 1, 6, 9, 10, 12] (by simp only [proj, lk, reduceIte, Nat.reduceEqDiff]; rfl) ?_
                refine hK32 _ _ ?_; clear hK32
                refine V_seq (fun K34 hK34 => ?_)
                refine V_sr T.mix (by kernel_rfl) (fun K35 hK35 => ?_)
                refine S_mv rfl ?_
                refine S_mv rfl ?_
                refine S_mv rfl ?_
                refine S_call T.hb41 rfl ?_
                refine FC.mono (prefix_spec h1 W G s ws M F s2 ms s.L.length (Pre.app s s2 _ (by rw [e2])) (by omega)) ?_
                rintro v' h' ⟨rfl, rfl⟩
                refine S_notb rfl ?_
                refine S_nil (hK35 _ _ (V_keep [1, 6, 9, 10, 12, 54] (by simp only [proj, lk, reduceIte, Nat.reduceEqDiff]; rfl) ?_)); clear hK35
                refine V_condb rfl (fun c99a => ?_) (fun c99a => ?_)
                · skip
                  cases c99a
                · skip
                  refine V_skipk [1, 6, 9, 10, 12] (by simp only [proj, lk, reduceIte, Nat.reduceEqDiff]; rfl) ?_
                  refine hK34 _ _ ?_; clear hK34
                  refine V_sr T.mix (by kernel_rfl) (fun K36 hK36 => ?_)
                  first | refine S_fa0 T.f36_1 rfl ?_ | refine S_fa T.f36_1 rfl ?_
                  refine S_ldK T.ag3 rfl (fun K' hK' => ?_)
                  simp (disch := omega) only [o0, o1, o2, oP_some, Nat.add_zero]
                  refine hK' _ ?_; clear hK' K'
                  refine S_call T.hb42 rfl ?_
                  refine FC.mono (var_spec _ oa (by omega) (by omega)) ?_
                  rintro v' h' ⟨rfl, rfl⟩
                  refine S_as rfl ?_
                  refine S_nil (hK36 _ _ (V_keep [1, 6, 9, 10, 12, 13] (by simp only [proj, lk, reduceIte, Nat.reduceEqDiff]; rfl) ?_)); clear hK36
                  refine V_seq (fun K37 hK37 => ?_)
                  refine V_srM #[0, 1, 4, 2, 3, 5] [0, 1, 3, 4] 2 [5] T.mix (by kernel_rfl) rfl ⟨rfl, rfl⟩ (fun K38 hK38 => ?_)
                  refine S_mv rfl ?_
                  refine S_mv rfl ?_
                  first | refine S_fa0 T.f36_1 rfl ?_ | refine S_fa T.f36_1 rfl ?_
                  refine S_ldK T.ag3 rfl (fun K' hK' => ?_)
                  simp (disch := omega) only [o0, o1, o2, oP_some, Nat.add_zero]
                  refine hK' _ ?_; clear hK' K'
                  refine S_nil ?_
                  refine SM_call T.hb26 rfl ?_
                  refine FC.mono (mat_spec h1 M F s2 ms _) ?_
                  rintro v' h' ⟨rfl, rfl⟩
                  first | refine ⟨Grows.refl _, ?_⟩ | refine ⟨Grows.of_ext (by assumption), ?_⟩
                  refine S_bin rfl rfl rfl ?_
                  refine S_nil (hK38 _ _ (V_keep [1, 10, 12, 13, 63] (by simp only [proj, lk, reduceIte, Nat.reduceEqDiff]; rfl) ?_)); clear hK38
                  refine V_condp rfl (fun c103a => ?_) (fun c103a => ?_)
                  · skip
                    exfalso; rw [e2] at c103a; exact c103a hap.1
                  · skip
                    refine V_skipk [1, 10, 12, 13] (by simp only [proj, lk, reduceIte, Nat.reduceEqDiff]; rfl) ?_
                    refine hK37 _ _ ?_; clear hK37
                    refine V_seq (fun K39 hK39 => ?_)
                    refine V_sr T.mix (by kernel_rfl) (fun K40 hK40 => ?_)
                    refine S_mv rfl ?_
                    refine S_mv rfl ?_
                    refine S_call T.hb43 rfl ?_
                    refine FC.mono (mlevelof_spec h1 M F s2 ms _) ?_
                    rintro v' h' ⟨rfl, rfl⟩
                    refine S_mv rfl ?_
                    refine S_bin rfl rfl rfl ?_
                    refine S_nil (hK40 _ _ (V_keep [1, 12, 13, 68] (by simp only [proj, lk, reduceIte, Nat.reduceEqDiff]; rfl) ?_)); clear hK40
                    refine V_condp rfl (fun c106a => ?_) (fun c106a => ?_)
                    · skip
                      exfalso; rw [e2] at c106a; exact c106a (by rw [hap.2.1])
                    · skip
                      refine V_skipk [1, 12, 13] (by simp only [proj, lk, reduceIte, Nat.reduceEqDiff]; rfl) ?_
                      refine hK39 _ _ ?_; clear hK39
                      refine V_sr T.mix (by kernel_rfl) (fun K41 hK41 => ?_)
                      refine S_mv rfl ?_
                      refine S_mv rfl ?_
                      refine S_call T.hb44 rfl ?_
                      refine FC.mono (mreason_spec h1 M F s2 ms _) ?_
                      rintro v' h' ⟨rfl, rfl⟩
                      refine S_mv rfl ?_
                      refine S_bin rfl rfl rfl ?_
                      refine S_as rfl ?_
                      refine S_nil (hK41 _ _ (V_keep [8] (by simp only [proj, lk, reduceIte, Nat.reduceEqDiff]; rfl) ?_)); clear hK41
                      refine V_ret ?_
                      refine hR _ _ (ret1 rfl rfl ?_)
                      exact ⟨by rw [e2, hap.2.2]; simp, hEh1⟩
        · skip
          refine V_sr T.mix (by kernel_rfl) (fun K42 hK42 => ?_)
          refine S_bin rfl rfl rfl ?_
          refine S_as rfl ?_
          refine S_nil (hK42 _ _ (V_keep [0, 1, 3, 6, 9, 10, 11, 26, 74] (by simp only [proj, lk, reduceIte, Nat.reduceEqDiff]; rfl) ?_)); clear hK42
          refine V_condp rfl (fun c110 => ?_) (fun c110 => ?_)
          · skip
            refine V_seq (fun K43 hK43 => ?_)
            refine V_sr T.mix (by kernel_rfl) (fun K44 hK44 => ?_)
            refine S_mv rfl ?_
            refine S_bin rfl rfl rfl ?_
            refine S_nil (hK44 _ _ (V_keep [0, 1, 6, 9, 10, 11, 77] (by simp only [proj, lk, reduceIte, Nat.reduceEqDiff]; rfl) ?_)); clear hK44
            refine V_condp rfl (fun c111 => ?_) (fun c111 => ?_)
            · skip
              refine V_exitk [0, 1, 9, 10, 11] rfl (by simp only [proj, lk, reduceIte, Nat.reduceEqDiff]; rfl) ?_
              exact ⟨(s.c : Int), by rw [hs2, stepS_err (by omega) (by omega)]; exact ⟨rfl, rfl, rfl⟩, rfl, rfl⟩
            · skip
              obtain ⟨hj0, hj1, e2⟩ := st_bj (s := s) (oa := oa) (ob := ob) c110 (by omega)
              rw [← hs2] at e2
              refine V_skipk [0, 1, 6, 9, 11] (by simp only [proj, lk, reduceIte, Nat.reduceEqDiff]; rfl) ?_
              refine hK43 _ _ ?_; clear hK43
              refine V_sr T.mix (by kernel_rfl) (fun K45 hK45 => ?_)
              refine S_as rfl ?_
              refine S_nil (hK45 _ _ (V_keep [0, 1, 6, 9, 11, 14] (by simp only [proj, lk, reduceIte, Nat.reduceEqDiff]; rfl) ?_)); clear hK45
              refine V_seqJ (fun l h' => ∃ (lf : Nat), (lf = cnt s.L (oa + 1)) ∧ (lf ≤ s.L.length) ∧ l = [(0, .pointer (some ⟨W, 0, none⟩)), (1, .pointer (some ⟨M, 0, none⟩)), (6, .pointer (some ⟨h.size, 0, none⟩)), (11, .int .i64 (s.c : Int)), (14, .int .i64 (lf : Int))] ∧ h1 = h') ?_ ?_
              · skip
                refine V_block ?_
                refine V_loop (fun m l h' => ∃ (left : Nat), (left ≤ s.L.length) ∧ (∀ i x, i < left → s.L[i]? = some x → x.lev ≤ oa) ∧ m = s.L.length - left ∧ l = [(0, .pointer (some ⟨W, 0, none⟩)), (1, .pointer (some ⟨M, 0, none⟩)), (6, .pointer (some ⟨h.size, 0, none⟩)), (9, .int .i64 (s.L.length : Int)), (11, .int .i64 (s.c : Int)), (14, .int .i64 (left : Int))] ∧ h1 = h') _ ⟨0, by omega, fun i x hi => by omega, rfl, rfl, rfl⟩ ?_
                rintro m l h' ⟨left, hle, hal, rfl, rfl, rfl⟩ K47 hK47
                refine V_seq (fun K48 hK48 => ?_)
                refine V_sr T.mix (by kernel_rfl) (fun K49 hK49 => ?_)
                refine S_mv rfl ?_
                refine S_mv rfl ?_
                refine S_bin rfl rfl rfl ?_
                refine S_nil (hK49 _ _ (V_keep [0, 1, 6, 9, 11, 14, 80] (by simp only [proj, lk, reduceIte, Nat.reduceEqDiff]; rfl) ?_)); clear hK49
                refine V_condp rfl (fun c115 => ?_) (fun c115 => ?_)
                · skip
                  obtain ⟨x, hx, p1, p2, p3, p4, p5, p6, p7⟩ := at_item ws.ok (show left < s.L.length by omega)
                  have p8 := p7
                  unfold good at p8
                  refine V_skipk [0, 1, 6, 9, 11, 14] (by simp only [proj, lk, reduceIte, Nat.reduceEqDiff]; rfl) ?_
                  refine hK48 _ _ ?_; clear hK48
                  refine V_block ?_
                  refine V_sr T.mix (by kernel_rfl) (fun K50 hK50 => ?_)
                  refine S_mv rfl ?_
                  refine S_mv rfl ?_
                  refine S_call T.hb26 rfl ?_
                  refine FC.mono (mat_spec h1 W G s ws left) ?_
                  rintro v' h' ⟨rfl, rfl⟩
                  rw [p1]
                  refine S_as rfl ?_
                  refine S_nil (hK50 _ _ (V_keep [0, 1, 6, 9, 11, 14, 15] (by simp only [proj, lk, reduceIte, Nat.reduceEqDiff]; rfl) ?_)); clear hK50
                  refine V_sr T.mix (by kernel_rfl) (fun K51 hK51 => ?_)
                  refine S_mv rfl ?_
                  refine S_call T.hb42 rfl ?_
                  refine FC.mono (var_spec _ x.lit (by omega) (by omega)) ?_
                  rintro v' h' ⟨rfl, rfl⟩
                  refine S_as rfl ?_
                  refine S_nil (hK51 _ _ (V_keep [0, 1, 6, 9, 11, 14, 16] (by simp only [proj, lk, reduceIte, Nat.reduceEqDiff]; rfl) ?_)); clear hK51
                  refine V_seq (fun K52 hK52 => ?_)
                  refine V_srM #[0, 1, 4, 2, 3, 5] [0, 1, 3, 4] 2 [5] T.mix (by kernel_rfl) rfl ⟨rfl, rfl⟩ (fun K53 hK53 => ?_)
                  refine S_mv rfl ?_
                  refine S_mv rfl ?_
                  first | refine S_fa0 T.f36_1 rfl ?_ | refine S_fa T.f36_1 rfl ?_
                  refine S_ldK T.ag3 rfl (fun K' hK' => ?_)
                  simp (disch := omega) only [o0, o1, o2, oP_some, Nat.add_zero]
                  refine hK' _ ?_; clear hK' K'
                  refine S_nil ?_
                  refine SM_call T.hb43 rfl ?_
                  refine FC.mono (mlevelof_spec h1 W G s ws _) ?_
                  rintro v' h' ⟨rfl, rfl⟩
                  first | refine ⟨Grows.refl _, ?_⟩ | refine ⟨Grows.of_ext (by assumption), ?_⟩
                  rw [p2]
                  refine S_bin rfl rfl rfl ?_
                  refine S_nil (hK53 _ _ (V_keep [0, 1, 6, 9, 11, 14, 91] (by simp only [proj, lk, reduceIte, Nat.reduceEqDiff]; rfl) ?_)); clear hK53
                  refine V_condp rfl (fun c118 => ?_) (fun c118 => ?_)
                  · skip
                    refine V_exitk [0, 1, 6, 11, 14] rfl (by simp only [proj, lk, reduceIte, Nat.reduceEqDiff]; rfl) ?_
                    exact ⟨left, (cnt_uniq ws.ok.lv hle hal (fun y hy => by rw [hx] at hy; cases hy; omega)).symm, hle, rfl, rfl⟩
                  · skip
                    refine V_skipk [0, 1, 6, 9, 11, 14] (by simp only [proj, lk, reduceIte, Nat.reduceEqDiff]; rfl) ?_
                    refine hK52 _ _ ?_; clear hK52
                    refine V_reg T.mix (by kernel_rfl) ?_
                    refine S_mv rfl ?_
                    first | refine S_add rfl rfl (by omega) (by omega) ?_ | refine S_bin rfl rfl rfl ?_
                    refine S_as rfl ?_
                    refine S_nilk [0, 1, 6, 9, 11, 14] (by simp only [proj, lk, reduceIte, Nat.reduceEqDiff]; rfl) ?_
                    exact hK47 _ _ ⟨_, by omega, left + 1, by omega, fun i y hi hy => by by_cases e : i = left; (subst e; rw [hx] at hy; cases hy; omega); (exact hal i y (by omega) hy), rfl, rfl, rfl⟩
                · skip
                  refine V_exitk [0, 1, 6, 11, 14] rfl (by simp only [proj, lk, reduceIte, Nat.reduceEqDiff]; rfl) ?_
                  exact ⟨left, (cnt_uniq ws.ok.lv hle hal (fun y hy => by have hll : left = s.L.length := (by omega); rw [hll, List.getElem?_eq_none (Nat.le_refl _)] at hy; cases hy)).symm, hle, rfl, rfl⟩
              rintro l h' ⟨lf, hlf, hll, rfl, rfl⟩
              refine V_seqJ (fun l h' => ∃ (cv : Int), (cv = ((min s.c lf : Nat) : Int)) ∧ l = [(0, .pointer (some ⟨W, 0, none⟩)), (1, .pointer (some ⟨M, 0, none⟩)), (6, .pointer (some ⟨h.size, 0, none⟩)), (11, .int .i64 cv), (14, .int .i64 (lf : Int))] ∧ h1 = h') ?_ ?_
              · skip
                refine V_sr T.mix (by kernel_rfl) (fun K55 hK55 => ?_)
                refine S_mv rfl ?_
                refine S_mv rfl ?_
                refine S_bin rfl rfl rfl ?_
                refine S_nil (hK55 _ _ (V_keep [0, 1, 6, 11, 14, 96] (by simp only [proj, lk, reduceIte, Nat.reduceEqDiff]; rfl) ?_)); clear hK55
                refine V_condp rfl (fun c123 => ?_) (fun c123 => ?_)
                · skip
                  refine V_reg T.mix (by kernel_rfl) ?_
                  refine S_mv rfl ?_
                  refine S_as rfl ?_
                  refine S_nilk [0, 1, 6, 11, 14] (by simp only [proj, lk, reduceIte, Nat.reduceEqDiff]; rfl) ?_
                  exact ⟨_, by omega, rfl, rfl⟩
                · skip
                  refine V_skipk [0, 1, 6, 11, 14] (by simp only [proj, lk, reduceIte, Nat.reduceEqDiff]; rfl) ?_
                  exact ⟨_, by omega, rfl, rfl⟩
              rintro l h' ⟨cv, hcv, rfl, rfl⟩
              refine V_seq (fun K56 hK56 => ?_)
              refine V_sr T.mix (by kernel_rfl) (fun K57 hK57 => ?_)
              refine S_mv rfl ?_
              refine S_mv rfl ?_
              first | refine S_fa0 T.f36_1 rfl ?_ | refine S_fa T.f36_1 rfl ?_
              refine S_ldK T.ag3 rfl (fun K' hK' => ?_)
              simp (disch := omega) only [o0, o1, o2, oP_some, Nat.add_zero]
              refine hK' _ ?_; clear hK' K'
              refine S_mv rfl ?_
              refine S_call T.hb40 rfl ?_
              refine FC.mono (shape_spec h1 M F s2 ms _ _ _ (by rw [e2]; simp only []; rw [backL_len]; omega) (by rw [e2]; simp only []; omega) (by rw [e2]; simp only []; omega)) ?_
              rintro v' h' ⟨rfl, rfl⟩
              refine S_notb rfl ?_
              refine S_nil (hK57 _ _ (V_keep [0, 1, 14, 104] (by simp only [proj, lk, reduceIte, Nat.reduceEqDiff]; rfl) ?_)); clear hK57
              refine V_condb rfl (fun c126 => ?_) (fun c126 => ?_)
              · skip
                cases c126
              · skip
                refine V_skipk [0, 1, 14] (by simp only [proj, lk, reduceIte, Nat.reduceEqDiff]; rfl) ?_
                refine hK56 _ _ ?_; clear hK56
                refine V_sr T.mix (by kernel_rfl) (fun K58 hK58 => ?_)
                refine S_mv rfl ?_
                refine S_mv rfl ?_
                refine S_mv rfl ?_
                refine S_call T.hb41 rfl ?_
                refine FC.mono (prefix_spec h1 W G s ws M F s2 ms lf (Pre.tk s s2 lf (by omega) (by rw [e2, hlf]; rfl)) (by omega)) ?_
                rintro v' h' ⟨rfl, rfl⟩
                refine S_as rfl ?_
                refine S_nil (hK58 _ _ (V_keep [8] (by simp only [proj, lk, reduceIte, Nat.reduceEqDiff]; rfl) ?_)); clear hK58
                refine V_ret ?_
                refine hR _ _ (ret1 rfl rfl ?_)
                exact ⟨rfl, hEh1⟩
          · skip
            refine V_sr T.mix (by kernel_rfl) (fun K59 hK59 => ?_)
            refine S_bin rfl rfl rfl ?_
            refine S_as rfl ?_
            refine S_nil (hK59 _ _ (V_keep [0, 1, 9, 10, 11, 109] (by simp only [proj, lk, reduceIte, Nat.reduceEqDiff]; rfl) ?_)); clear hK59
            refine V_condp rfl (fun c130 => ?_) (fun c130 => ?_)
            · skip
              refine V_sr T.mix (by kernel_rfl) (fun K60 hK60 => ?_)
              refine S_mv rfl ?_
              refine S_mv rfl ?_
              refine S_bin rfl rfl rfl ?_
              refine S_nil (hK60 _ _ (V_keep [0, 1, 9, 10, 11, 113] (by simp only [proj, lk, reduceIte, Nat.reduceEqDiff]; rfl) ?_)); clear hK60
              refine V_condp rfl (fun c131 => ?_) (fun c131 => ?_)
              · skip
                refine V_reg T.mix (by kernel_rfl) ?_
                refine S_mv rfl ?_
                first | refine S_add rfl rfl (by omega) (by omega) ?_ | refine S_bin rfl rfl rfl ?_
                refine S_as rfl ?_
                refine S_nilk [0, 1, 9, 10, 11] (by simp only [proj, lk, reduceIte, Nat.reduceEqDiff]; rfl) ?_
                exact ⟨((s.c + 1 : Nat) : Int), by rw [hs2, st_take c130]; unfold takeS; rw [if_pos (by omega)]; exact ⟨rfl, rfl, rfl⟩, rfl, rfl⟩
              · skip
                refine V_skipk [0, 1, 9, 10, 11] (by simp only [proj, lk, reduceIte, Nat.reduceEqDiff]; rfl) ?_
                exact ⟨(s.c : Int), by rw [hs2, st_take c130]; unfold takeS; rw [if_neg (by omega)]; exact ⟨rfl, rfl, rfl⟩, rfl, rfl⟩
            · skip
              refine V_skipk [0, 1, 9, 10, 11] (by simp only [proj, lk, reduceIte, Nat.reduceEqDiff]; rfl) ?_
              exact ⟨(s.c : Int), by rw [hs2, st_oth (by omega)]; exact ⟨rfl, rfl, rfl⟩, rfl, rfl⟩
  rintro l h' ⟨cv, hJ, rfl, rfl⟩
  refine V_seq (fun K61 hK61 => ?_)
  refine V_sr T.mix (by kernel_rfl) (fun K62 hK62 => ?_)
  refine S_mv rfl ?_
  refine S_mv rfl ?_
  refine S_mv rfl ?_
  refine S_mv rfl ?_
  refine S_call T.hb40 rfl ?_
  refine FC.mono (shape_spec h1 M F s2 ms _ _ _ (by rw [hJ.1]) hJ.2.1 hJ.2.2) ?_
  rintro v' h' ⟨rfl, rfl⟩
  refine S_notb rfl ?_
  refine S_nil (hK62 _ _ (V_keep [0, 1, 9, 121] (by simp only [proj, lk, reduceIte, Nat.reduceEqDiff]; rfl) ?_)); clear hK62
  refine V_condb rfl (fun c135 => ?_) (fun c135 => ?_)
  · skip
    cases c135
  · skip
    refine V_skipk [0, 1, 9] (by simp only [proj, lk, reduceIte, Nat.reduceEqDiff]; rfl) ?_
    refine hK61 _ _ ?_; clear hK61
    refine V_sr T.mix (by kernel_rfl) (fun K63 hK63 => ?_)
    refine S_mv rfl ?_
    refine S_mv rfl ?_
    refine S_mv rfl ?_
    refine S_call T.hb41 rfl ?_
    refine FC.mono (prefix_spec h1 W G s ws M F s2 ms s.L.length (Pre.refl s s2 hJ.1) (by omega)) ?_
    rintro v' h' ⟨rfl, rfl⟩
    refine S_as rfl ?_
    refine S_nil (hK63 _ _ (V_keep [8] (by simp only [proj, lk, reduceIte, Nat.reduceEqDiff]; rfl) ?_)); clear hK63
    refine V_ret ?_
    refine hR _ _ (ret1 rfl rfl ?_)
    exact ⟨rfl, hEh1⟩
set_option maxHeartbeats 400000 in
theorem samevalue_spec (base : Nat) (h : Heap) (X M : Nat) (F : Nat → Prop) (s : TS) (p : Nat) (w : WJ base h X M F s s p) (lt : Int) :
    FC Try.prog 32 (#[.pointer (some ⟨X, 0, none⟩), .pointer (some ⟨M, 0, none⟩), .int .i64 lt] : Array Value) h fun v h' => v = .bool true ∧ h = h' := by
  refine FC_of [(0, .pointer (some ⟨X, 0, none⟩)), (1, .pointer (some ⟨M, 0, none⟩)), (2, .int .i64 lt)] Try.func32 rfl Try.ntmps32 (by simp) rfl (fun R hR => ?_)
  refine V_sr T.mix (by kernel_rfl) (fun K1 hK1 => ?_)
  refine S_as rfl ?_
  refine S_nil (hK1 _ _ (V_keep [0, 1, 2] (by simp only [proj, lk, reduceIte, Nat.reduceEqDiff]; rfl) ?_)); clear hK1
  refine V_sr T.mix (by kernel_rfl) (fun K2 hK2 => ?_)
  refine S_mv rfl ?_
  refine S_mv rfl ?_
  refine S_call T.hb60 rfl ?_
  refine FC.mono (value_spec h X s p w.r lt) ?_
  rintro v' h' ⟨rfl, rfl⟩
  refine S_as rfl ?_
  refine S_nil (hK2 _ _ (V_keep [1, 2, 7] (by simp only [proj, lk, reduceIte, Nat.reduceEqDiff]; rfl) ?_)); clear hK2
  refine V_sr T.mix (by kernel_rfl) (fun K3 hK3 => ?_)
  refine S_mv rfl ?_
  refine S_mv rfl ?_
  refine S_call T.hb23 rfl ?_
  refine FC.mono (mvalue_spec h M F s w.m lt) ?_
  rintro v' h' ⟨rfl, rfl⟩
  refine S_as rfl ?_
  refine S_nil (hK3 _ _ (V_keep [7, 8] (by simp only [proj, lk, reduceIte, Nat.reduceEqDiff]; rfl) ?_)); clear hK3
  refine V_sr T.mix (by kernel_rfl) (fun K4 hK4 => ?_)
  refine S_mv rfl ?_
  refine S_mv rfl ?_
  refine S_bin rfl rfl rfl ?_
  refine S_as rfl ?_
  refine S_nil (hK4 _ _ (V_keep [6] (by simp only [proj, lk, reduceIte, Nat.reduceEqDiff]; rfl) ?_)); clear hK4
  refine V_ret ?_
  refine hR _ _ (ret1 rfl rfl ?_)
  exact ⟨by simp, rfl⟩
set_option maxHeartbeats 400000 in
theorem samelevel_spec (base : Nat) (h : Heap) (X M : Nat) (F : Nat → Prop) (s : TS) (p : Nat) (w : WJ base h X M F s s p) :
    FC Try.prog 33 (#[.pointer (some ⟨X, 0, none⟩), .pointer (some ⟨M, 0, none⟩)] : Array Value) h fun v h' => v = .bool true ∧ h = h' := by
  refine FC_of [(0, .pointer (some ⟨X, 0, none⟩)), (1, .pointer (some ⟨M, 0, none⟩))] Try.func33 rfl Try.ntmps33 (by simp) rfl (fun R hR => ?_)
  refine V_sr T.mix (by kernel_rfl) (fun K1 hK1 => ?_)
  refine S_as rfl ?_
  refine S_nil (hK1 _ _ (V_keep [0, 1] (by simp only [proj, lk, reduceIte, Nat.reduceEqDiff]; rfl) ?_)); clear hK1
  refine V_sr T.mix (by kernel_rfl) (fun K2 hK2 => ?_)
  refine S_mv rfl ?_
  refine S_call T.hb61 rfl ?_
  refine FC.mono (level_spec h X s p w.r) ?_
  rintro v' h' ⟨rfl, rfl⟩
  refine S_as rfl ?_
  refine S_nil (hK2 _ _ (V_keep [1, 5] (by simp only [proj, lk, reduceIte, Nat.reduceEqDiff]; rfl) ?_)); clear hK2
  refine V_sr T.mix (by kernel_rfl) (fun K3 hK3 => ?_)
  refine S_mv rfl ?_
  refine S_call T.hb24 rfl ?_
  refine FC.mono (mlevel_spec h M F s w.m) ?_
  rintro v' h' ⟨rfl, rfl⟩
  refine S_as rfl ?_
  refine S_nil (hK3 _ _ (V_keep [5, 6] (by simp only [proj, lk, reduceIte, Nat.reduceEqDiff]; rfl) ?_)); clear hK3
  refine V_sr T.mix (by kernel_rfl) (fun K4 hK4 => ?_)
  refine S_mv rfl ?_
  refine S_mv rfl ?_
  refine S_bin rfl rfl rfl ?_
  refine S_as rfl ?_
  refine S_nil (hK4 _ _ (V_keep [4] (by simp only [proj, lk, reduceIte, Nat.reduceEqDiff]; rfl) ?_)); clear hK4
  refine V_ret ?_
  refine hR _ _ (ret1 rfl rfl ?_)
  exact ⟨by simp, rfl⟩
set_option maxHeartbeats 400000 in
theorem samelen_spec (base : Nat) (h : Heap) (X M : Nat) (F : Nat → Prop) (s : TS) (p : Nat) (w : WJ base h X M F s s p) :
    FC Try.prog 34 (#[.pointer (some ⟨X, 0, none⟩), .pointer (some ⟨M, 0, none⟩)] : Array Value) h fun v h' => v = .bool true ∧ h = h' := by
  refine FC_of [(0, .pointer (some ⟨X, 0, none⟩)), (1, .pointer (some ⟨M, 0, none⟩))] Try.func34 rfl Try.ntmps34 (by simp) rfl (fun R hR => ?_)
  refine V_sr T.mix (by kernel_rfl) (fun K1 hK1 => ?_)
  refine S_as rfl ?_
  refine S_nil (hK1 _ _ (V_keep [0, 1] (by simp only [proj, lk, reduceIte, Nat.reduceEqDiff]; rfl) ?_)); clear hK1
  refine V_sr T.mix (by kernel_rfl) (fun K2 hK2 => ?_)
  refine S_mv rfl ?_
  refine S_call T.hb62 rfl ?_
  refine FC.mono (len_spec h X s p w.r) ?_
  rintro v' h' ⟨rfl, rfl⟩
  refine S_as rfl ?_
  refine S_nil (hK2 _ _ (V_keep [1, 5] (by simp only [proj, lk, reduceIte, Nat.reduceEqDiff]; rfl) ?_)); clear hK2
  refine V_sr T.mix (by kernel_rfl) (fun K3 hK3 => ?_)
  refine S_mv rfl ?_
  refine S_call T.hb13 rfl ?_
  refine FC.mono (mlen_spec h M F s w.m) ?_
  rintro v' h' ⟨rfl, rfl⟩
  refine S_as rfl ?_
  refine S_nil (hK3 _ _ (V_keep [5, 6] (by simp only [proj, lk, reduceIte, Nat.reduceEqDiff]; rfl) ?_)); clear hK3
  refine V_sr T.mix (by kernel_rfl) (fun K4 hK4 => ?_)
  refine S_mv rfl ?_
  refine S_mv rfl ?_
  refine S_bin rfl rfl rfl ?_
  refine S_as rfl ?_
  refine S_nil (hK4 _ _ (V_keep [4] (by simp only [proj, lk, reduceIte, Nat.reduceEqDiff]; rfl) ?_)); clear hK4
  refine V_ret ?_
  refine hR _ _ (ret1 rfl rfl ?_)
  exact ⟨by simp, rfl⟩
set_option maxHeartbeats 400000 in
theorem samepending_spec (base : Nat) (h : Heap) (X M : Nat) (F : Nat → Prop) (s : TS) (p : Nat) (w : WJ base h X M F s s p) :
    FC Try.prog 35 (#[.pointer (some ⟨X, 0, none⟩), .pointer (some ⟨M, 0, none⟩)] : Array Value) h fun v h' => v = .bool true ∧ h = h' := by
  refine FC_of [(0, .pointer (some ⟨X, 0, none⟩)), (1, .pointer (some ⟨M, 0, none⟩))] Try.func35 rfl Try.ntmps35 (by simp) rfl (fun R hR => ?_)
  refine V_sr T.mix (by kernel_rfl) (fun K1 hK1 => ?_)
  refine S_as rfl ?_
  refine S_nil (hK1 _ _ (V_keep [0, 1] (by simp only [proj, lk, reduceIte, Nat.reduceEqDiff]; rfl) ?_)); clear hK1
  refine V_sr T.mix (by kernel_rfl) (fun K2 hK2 => ?_)
  refine S_mv rfl ?_
  refine S_call T.hb63 rfl ?_
  refine FC.mono (pending_spec h X s p w.r) ?_
  rintro v' h' ⟨rfl, rfl⟩
  refine S_as rfl ?_
  refine S_nil (hK2 _ _ (V_keep [1, 5] (by simp only [proj, lk, reduceIte, Nat.reduceEqDiff]; rfl) ?_)); clear hK2
  refine V_sr T.mix (by kernel_rfl) (fun K3 hK3 => ?_)
  refine S_mv rfl ?_
  refine S_call T.hb25 rfl ?_
  refine FC.mono (mpending_spec h M F s w.m) ?_
  rintro v' h' ⟨rfl, rfl⟩
  refine S_as rfl ?_
  refine S_nil (hK3 _ _ (V_keep [5, 6] (by simp only [proj, lk, reduceIte, Nat.reduceEqDiff]; rfl) ?_)); clear hK3
  refine V_sr T.mix (by kernel_rfl) (fun K4 hK4 => ?_)
  refine S_mv rfl ?_
  refine S_mv rfl ?_
  refine S_bin rfl rfl rfl ?_
  refine S_as rfl ?_
  refine S_nil (hK4 _ _ (V_keep [4] (by simp only [proj, lk, reduceIte, Nat.reduceEqDiff]; rfl) ?_)); clear hK4
  refine V_ret ?_
  refine hR _ _ (ret1 rfl rfl ?_)
  exact ⟨by simp, rfl⟩
set_option maxHeartbeats 400000 in
theorem sameat_spec (base : Nat) (h : Heap) (X M : Nat) (F : Nat → Prop) (s : TS) (p : Nat) (w : WJ base h X M F s s p) (i : Int) :
    FC Try.prog 36 (#[.pointer (some ⟨X, 0, none⟩), .pointer (some ⟨M, 0, none⟩), .int .i64 i] : Array Value) h fun v h' => v = .bool true ∧ h = h' := by
  refine FC_of [(0, .pointer (some ⟨X, 0, none⟩)), (1, .pointer (some ⟨M, 0, none⟩)), (2, .int .i64 i)] Try.func36 rfl Try.ntmps36 (by simp) rfl (fun R hR => ?_)
  refine V_sr T.mix (by kernel_rfl) (fun K1 hK1 => ?_)
  refine S_as rfl ?_
  refine S_nil (hK1 _ _ (V_keep [0, 1, 2] (by simp only [proj, lk, reduceIte, Nat.reduceEqDiff]; rfl) ?_)); clear hK1
  refine V_sr T.mix (by kernel_rfl) (fun K2 hK2 => ?_)
  refine S_mv rfl ?_
  refine S_mv rfl ?_
  refine S_call T.hb64 rfl ?_
  refine FC.mono (at_spec h X s p w.r i) ?_
  rintro v' h' ⟨rfl, rfl⟩
  refine S_as rfl ?_
  refine S_nil (hK2 _ _ (V_keep [1, 2, 7] (by simp only [proj, lk, reduceIte, Nat.reduceEqDiff]; rfl) ?_)); clear hK2
  refine V_sr T.mix (by kernel_rfl) (fun K3 hK3 => ?_)
  refine S_mv rfl ?_
  refine S_mv rfl ?_
  refine S_call T.hb26 rfl ?_
  refine FC.mono (mat_spec h M F s w.m i) ?_
  rintro v' h' ⟨rfl, rfl⟩
  refine S_as rfl ?_
  refine S_nil (hK3 _ _ (V_keep [7, 8] (by simp only [proj, lk, reduceIte, Nat.reduceEqDiff]; rfl) ?_)); clear hK3
  refine V_sr T.mix (by kernel_rfl) (fun K4 hK4 => ?_)
  refine S_mv rfl ?_
  refine S_mv rfl ?_
  refine S_bin rfl rfl rfl ?_
  refine S_as rfl ?_
  refine S_nil (hK4 _ _ (V_keep [6] (by simp only [proj, lk, reduceIte, Nat.reduceEqDiff]; rfl) ?_)); clear hK4
  refine V_ret ?_
  refine hR _ _ (ret1 rfl rfl ?_)
  exact ⟨by simp, rfl⟩
set_option maxHeartbeats 400000 in
theorem samelevelof_spec (base : Nat) (h : Heap) (X M : Nat) (F : Nat → Prop) (s : TS) (p : Nat) (w : WJ base h X M F s s p) (v : Int) :
    FC Try.prog 37 (#[.pointer (some ⟨X, 0, none⟩), .pointer (some ⟨M, 0, none⟩), .int .i64 v] : Array Value) h fun v h' => v = .bool true ∧ h = h' := by
  refine FC_of [(0, .pointer (some ⟨X, 0, none⟩)), (1, .pointer (some ⟨M, 0, none⟩)), (2, .int .i64 v)] Try.func37 rfl Try.ntmps37 (by simp) rfl (fun R hR => ?_)
  refine V_sr T.mix (by kernel_rfl) (fun K1 hK1 => ?_)
  refine S_as rfl ?_
  refine S_nil (hK1 _ _ (V_keep [0, 1, 2] (by simp only [proj, lk, reduceIte, Nat.reduceEqDiff]; rfl) ?_)); clear hK1
  refine V_sr T.mix (by kernel_rfl) (fun K2 hK2 => ?_)
  refine S_mv rfl ?_
  refine S_mv rfl ?_
  refine S_call T.hb65 rfl ?_
  refine FC.mono (levelof_spec h X s p w.r v) ?_
  rintro v' h' ⟨rfl, rfl⟩
  refine S_as rfl ?_
  refine S_nil (hK2 _ _ (V_keep [1, 2, 7] (by simp only [proj, lk, reduceIte, Nat.reduceEqDiff]; rfl) ?_)); clear hK2
  refine V_sr T.mix (by kernel_rfl) (fun K3 hK3 => ?_)
  refine S_mv rfl ?_
  refine S_mv rfl ?_
  refine S_call T.hb43 rfl ?_
  refine FC.mono (mlevelof_spec h M F s w.m v) ?_
  rintro v' h' ⟨rfl, rfl⟩
  refine S_as rfl ?_
  refine S_nil (hK3 _ _ (V_keep [7, 8] (by simp only [proj, lk, reduceIte, Nat.reduceEqDiff]; rfl) ?_)); clear hK3
  refine V_sr T.mix (by kernel_rfl) (fun K4 hK4 => ?_)
  refine S_mv rfl ?_
  refine S_mv rfl ?_
  refine S_bin rfl rfl rfl ?_
  refine S_as rfl ?_
  refine S_nil (hK4 _ _ (V_keep [6] (by simp only [proj, lk, reduceIte, Nat.reduceEqDiff]; rfl) ?_)); clear hK4
  refine V_ret ?_
  refine hR _ _ (ret1 rfl rfl ?_)
  exact ⟨by simp, rfl⟩
set_option maxHeartbeats 400000 in
theorem samereason_spec (base : Nat) (h : Heap) (X M : Nat) (F : Nat → Prop) (s : TS) (p : Nat) (w : WJ base h X M F s s p) (v : Int) :
    FC Try.prog 38 (#[.pointer (some ⟨X, 0, none⟩), .pointer (some ⟨M, 0, none⟩), .int .i64 v] : Array Value) h fun v h' => v = .bool true ∧ h = h' := by
  refine FC_of [(0, .pointer (some ⟨X, 0, none⟩)), (1, .pointer (some ⟨M, 0, none⟩)), (2, .int .i64 v)] Try.func38 rfl Try.ntmps38 (by simp) rfl (fun R hR => ?_)
  refine V_sr T.mix (by kernel_rfl) (fun K1 hK1 => ?_)
  refine S_as rfl ?_
  refine S_nil (hK1 _ _ (V_keep [0, 1, 2] (by simp only [proj, lk, reduceIte, Nat.reduceEqDiff]; rfl) ?_)); clear hK1
  refine V_sr T.mix (by kernel_rfl) (fun K2 hK2 => ?_)
  refine S_mv rfl ?_
  refine S_mv rfl ?_
  refine S_call T.hb66 rfl ?_
  refine FC.mono (reason_spec h X s p w.r v) ?_
  rintro v' h' ⟨rfl, rfl⟩
  refine S_as rfl ?_
  refine S_nil (hK2 _ _ (V_keep [1, 2, 7] (by simp only [proj, lk, reduceIte, Nat.reduceEqDiff]; rfl) ?_)); clear hK2
  refine V_sr T.mix (by kernel_rfl) (fun K3 hK3 => ?_)
  refine S_mv rfl ?_
  refine S_mv rfl ?_
  refine S_call T.hb44 rfl ?_
  refine FC.mono (mreason_spec h M F s w.m v) ?_
  rintro v' h' ⟨rfl, rfl⟩
  refine S_as rfl ?_
  refine S_nil (hK3 _ _ (V_keep [7, 8] (by simp only [proj, lk, reduceIte, Nat.reduceEqDiff]; rfl) ?_)); clear hK3
  refine V_sr T.mix (by kernel_rfl) (fun K4 hK4 => ?_)
  refine S_mv rfl ?_
  refine S_mv rfl ?_
  refine S_bin rfl rfl rfl ?_
  refine S_as rfl ?_
  refine S_nil (hK4 _ _ (V_keep [6] (by simp only [proj, lk, reduceIte, Nat.reduceEqDiff]; rfl) ?_)); clear hK4
  refine V_ret ?_
  refine hR _ _ (ret1 rfl rfl ?_)
  exact ⟨by simp, rfl⟩
set_option maxHeartbeats 400000 in
theorem sameplace_spec (base : Nat) (h : Heap) (X M : Nat) (F : Nat → Prop) (s : TS) (p : Nat) (w : WJ base h X M F s s p) (v : Int) :
    FC Try.prog 39 (#[.pointer (some ⟨X, 0, none⟩), .pointer (some ⟨M, 0, none⟩), .int .i64 v] : Array Value) h fun v h' => v = .bool true ∧ h = h' := by
  refine FC_of [(0, .pointer (some ⟨X, 0, none⟩)), (1, .pointer (some ⟨M, 0, none⟩)), (2, .int .i64 v)] Try.func39 rfl Try.ntmps39 (by simp) rfl (fun R hR => ?_)
  refine V_sr T.mix (by kernel_rfl) (fun K1 hK1 => ?_)
  refine S_as rfl ?_
  refine S_nil (hK1 _ _ (V_keep [0, 1, 2] (by simp only [proj, lk, reduceIte, Nat.reduceEqDiff]; rfl) ?_)); clear hK1
  refine V_sr T.mix (by kernel_rfl) (fun K2 hK2 => ?_)
  refine S_mv rfl ?_
  refine S_mv rfl ?_
  refine S_call T.hb67 rfl ?_
  refine FC.mono (place_spec h X s p w.r v) ?_
  rintro v' h' ⟨rfl, rfl⟩
  refine S_as rfl ?_
  refine S_nil (hK2 _ _ (V_keep [1, 2, 7] (by simp only [proj, lk, reduceIte, Nat.reduceEqDiff]; rfl) ?_)); clear hK2
  refine V_sr T.mix (by kernel_rfl) (fun K3 hK3 => ?_)
  refine S_mv rfl ?_
  refine S_mv rfl ?_
  refine S_call T.hb68 rfl ?_
  refine FC.mono (mplace_spec h M F s w.m v) ?_
  rintro v' h' ⟨rfl, rfl⟩
  refine S_as rfl ?_
  refine S_nil (hK3 _ _ (V_keep [7, 8] (by simp only [proj, lk, reduceIte, Nat.reduceEqDiff]; rfl) ?_)); clear hK3
  refine V_sr T.mix (by kernel_rfl) (fun K4 hK4 => ?_)
  refine S_mv rfl ?_
  refine S_mv rfl ?_
  refine S_bin rfl rfl rfl ?_
  refine S_as rfl ?_
  refine S_nil (hK4 _ _ (V_keep [6] (by simp only [proj, lk, reduceIte, Nat.reduceEqDiff]; rfl) ?_)); clear hK4
  refine V_ret ?_
  refine hR _ _ (ret1 rfl rfl ?_)
  exact ⟨by simp, rfl⟩
set_option maxHeartbeats 400000 in
theorem samereset_spec (base : Nat) (h : Heap) (X M : Nat) (F : Nat → Prop) (s : TS) (p : Nat) (w : WJ base h X M F s s p) (hpb : p + s.L.length ≤ 1000000000000000) :
    FC Try.prog 27 (#[.pointer (some ⟨X, 0, none⟩), .pointer (some ⟨M, 0, none⟩)] : Array Value) h fun rv h' => rv = .bool true ∧ ∃ F', WJ base h' X M F' (⟨[], 0, 0⟩) (⟨[], 0, 0⟩) (p + s.L.length) ∧ WEx X F F' h h' := by
  refine FC_of [(0, .pointer (some ⟨X, 0, none⟩)), (1, .pointer (some ⟨M, 0, none⟩))] Try.func27 rfl Try.ntmps27 (by simp) rfl (fun R hR => ?_)
  refine V_sr T.mix (by kernel_rfl) (fun K1 hK1 => ?_)
  refine S_as rfl ?_
  refine S_nil (hK1 _ _ (V_keep [0, 1] (by simp only [proj, lk, reduceIte, Nat.reduceEqDiff]; rfl) ?_)); clear hK1
  refine V_sr T.mix (by kernel_rfl) (fun K2 hK2 => ?_)
  refine S_mv rfl ?_
  refine S_call T.hb50 rfl ?_
  refine FC.mono (reset_spec h X s p w.r w.pb) ?_
  rintro v' h1 ⟨rfl, r1, hE1⟩
  have w1 : WJ base h1 X M F ⟨[], 0, 0⟩ s (p + s.L.length) := ⟨r1, w.m.ext hE1 (fun b hb e => w.d (e ▸ hb)), w.d, w.lo, hpb⟩
  refine S_nil (hK2 _ _ (V_keep [1] (by simp only [proj, lk, reduceIte, Nat.reduceEqDiff]; rfl) ?_)); clear hK2
  refine V_sr T.mix (by kernel_rfl) (fun K3 hK3 => ?_)
  refine S_mv rfl ?_
  refine S_call T.hb51 rfl ?_
  refine FC.mono (mreset_spec h1 M F s w1.m) ?_
  rintro v' h2 ⟨rfl, F2, m2, hX2⟩
  have w2 := w1.model m2 hX2
  have hW := (WEx.real (F := F) hE1).trans (WEx.model hX2)
  refine S_nil (hK3 _ _ (V_keep [] (by simp only [proj, lk, reduceIte, Nat.reduceEqDiff]; rfl) ?_)); clear hK3
  refine V_sr T.mix (by kernel_rfl) (fun K4 hK4 => ?_)
  refine S_as rfl ?_
  refine S_nil (hK4 _ _ (V_keep [4] (by simp only [proj, lk, reduceIte, Nat.reduceEqDiff]; rfl) ?_)); clear hK4
  refine V_ret ?_
  refine hR _ _ (ret1 rfl rfl ?_)
  exact ⟨rfl, F2, w2, hW⟩
set_option maxHeartbeats 400000 in
theorem samedecide_spec (base : Nat) (h : Heap) (X M : Nat) (F : Nat → Prop) (s : TS) (p : Nat) (w : WJ base h X M F s s p) (lt due : Int) (hd : due = (decE s lt : Int)) :
    FC Try.prog 28 (#[.pointer (some ⟨X, 0, none⟩), .pointer (some ⟨M, 0, none⟩), .int .i64 lt, .int .i64 due] : Array Value) h fun rv h' => rv = .bool true ∧ ∃ F', WJ base h' X M F' (decS s lt) (decS s lt) (p) ∧ WEx X F F' h h' := by
  refine FC_of [(0, .pointer (some ⟨X, 0, none⟩)), (1, .pointer (some ⟨M, 0, none⟩)), (2, .int .i64 lt), (3, .int .i64 due)] Try.func28 rfl Try.ntmps28 (by simp) rfl (fun R hR => ?_)
  refine V_sr T.mix (by kernel_rfl) (fun K1 hK1 => ?_)
  refine S_as rfl ?_
  refine S_nil (hK1 _ _ (V_keep [0, 1, 2, 3] (by simp only [proj, lk, reduceIte, Nat.reduceEqDiff]; rfl) ?_)); clear hK1
  refine V_sr T.mix (by kernel_rfl) (fun K2 hK2 => ?_)
  refine S_mv rfl ?_
  refine S_mv rfl ?_
  refine S_call T.hb52 rfl ?_
  refine FC.mono (decide_spec h X s p w.r lt) ?_
  rintro v' h1 ⟨rfl, r1, hE1⟩
  have w1 := w.real r1 hE1
  refine S_as rfl ?_
  refine S_nil (hK2 _ _ (V_keep [1, 2, 3, 9] (by simp only [proj, lk, reduceIte, Nat.reduceEqDiff]; rfl) ?_)); clear hK2
  refine V_sr T.mix (by kernel_rfl) (fun K3 hK3 => ?_)
  refine S_mv rfl ?_
  refine S_mv rfl ?_
  refine S_call T.hb53 rfl ?_
  refine FC.mono (mdecide_spec h1 M F s w1.m lt) ?_
  rintro v' h2 ⟨rfl, F2, m2, hX2⟩
  have w2 := w1.model m2 hX2
  have hW := (WEx.real (F := F) hE1).trans (WEx.model hX2)
  refine S_as rfl ?_
  refine S_nil (hK3 _ _ (V_keep [3, 9, 10] (by simp only [proj, lk, reduceIte, Nat.reduceEqDiff]; rfl) ?_)); clear hK3
  refine V_sr T.mix (by kernel_rfl) (fun K4 hK4 => ?_)
  refine S_mv rfl ?_
  refine S_mv rfl ?_
  refine S_bin rfl rfl rfl ?_
  refine S_mv rfl ?_
  refine S_dec (fun g48 => ?_) (fun g48 => ?_)
  · skip
    refine S_gt rfl ?_
    refine S_mv rfl ?_
    refine S_gt rfl ?_
    refine S_mv rfl ?_
    refine S_gt rfl ?_
    refine S_bin rfl rfl rfl ?_
    refine S_pt rfl rfl ?_
    refine S_as rfl ?_
    refine S_nil (hK4 _ _ (V_keep [8] (by simp only [proj, lk, reduceIte, Nat.reduceEqDiff]; rfl) ?_)); clear hK4
    refine V_ret ?_
    refine hR _ _ (ret1 rfl rfl ?_)
    exact ⟨by simp [hd], F2, w2, hW⟩
  · skip
    exfalso; exact g48 rfl
set_option maxHeartbeats 400000 in
theorem sameassign_spec (base : Nat) (h : Heap) (X M : Nat) (F : Nat → Prop) (s : TS) (p : Nat) (w : WJ base h X M F s s p) (lt r due : Int) (hd : due = (asgE s lt r : Int)) :
    FC Try.prog 29 (#[.pointer (some ⟨X, 0, none⟩), .pointer (some ⟨M, 0, none⟩), .int .i64 lt, .int .i64 r, .int .i64 due] : Array Value) h fun rv h' => rv = .bool true ∧ ∃ F', WJ base h' X M F' (asgS s lt r) (asgS s lt r) (p) ∧ WEx X F F' h h' := by
  refine FC_of [(0, .pointer (some ⟨X, 0, none⟩)), (1, .pointer (some ⟨M, 0, none⟩)), (2, .int .i64 lt), (3, .int .i64 r), (4, .int .i64 due)] Try.func29 rfl Try.ntmps29 (by simp) rfl (fun R hR => ?_)
  refine V_sr T.mix (by kernel_rfl) (fun K1 hK1 => ?_)
  refine S_as rfl ?_
  refine S_nil (hK1 _ _ (V_keep [0, 1, 2, 3, 4] (by simp only [proj, lk, reduceIte, Nat.reduceEqDiff]; rfl) ?_)); clear hK1
  refine V_sr T.mix (by kernel_rfl) (fun K2 hK2 => ?_)
  refine S_mv rfl ?_
  refine S_mv rfl ?_
  refine S_mv rfl ?_
  refine S_call T.hb54 rfl ?_
  refine FC.mono (assign_spec h X s p w.r lt r) ?_
  rintro v' h1 ⟨rfl, r1, hE1⟩
  have w1 := w.real r1 hE1
  refine S_as rfl ?_
  refine S_nil (hK2 _ _ (V_keep [1, 2, 3, 4, 11] (by simp only [proj, lk, reduceIte, Nat.reduceEqDiff]; rfl) ?_)); clear hK2
  refine V_sr T.mix (by kernel_rfl) (fun K3 hK3 => ?_)
  refine S_mv rfl ?_
  refine S_mv rfl ?_
  refine S_mv rfl ?_
  refine S_call T.hb55 rfl ?_
  refine FC.mono (massign_spec h1 M F s w1.m lt r) ?_
  rintro v' h2 ⟨rfl, F2, m2, hX2⟩
  have w2 := w1.model m2 hX2
  have hW := (WEx.real (F := F) hE1).trans (WEx.model hX2)
  refine S_as rfl ?_
  refine S_nil (hK3 _ _ (V_keep [4, 11, 12] (by simp only [proj, lk, reduceIte, Nat.reduceEqDiff]; rfl) ?_)); clear hK3
  refine V_sr T.mix (by kernel_rfl) (fun K4 hK4 => ?_)
  refine S_mv rfl ?_
  refine S_mv rfl ?_
  refine S_bin rfl rfl rfl ?_
  refine S_mv rfl ?_
  refine S_dec (fun g55 => ?_) (fun g55 => ?_)
  · skip
    refine S_gt rfl ?_
    refine S_mv rfl ?_
    refine S_gt rfl ?_
    refine S_mv rfl ?_
    refine S_gt rfl ?_
    refine S_bin rfl rfl rfl ?_
    refine S_pt rfl rfl ?_
    refine S_as rfl ?_
    refine S_nil (hK4 _ _ (V_keep [10] (by simp only [proj, lk, reduceIte, Nat.reduceEqDiff]; rfl) ?_)); clear hK4
    refine V_ret ?_
    refine hR _ _ (ret1 rfl rfl ?_)
    exact ⟨by simp [hd], F2, w2, hW⟩
  · skip
    exfalso; exact g55 rfl
set_option maxHeartbeats 400000 in
theorem samebackjump_spec (base : Nat) (h : Heap) (X M : Nat) (F : Nat → Prop) (s : TS) (p : Nat) (w : WJ base h X M F s s p) (lv due : Int) (hd : due = (bjE s lv : Int)) (hpb : p + s.L.length ≤ 1000000000000000) :
    FC Try.prog 30 (#[.pointer (some ⟨X, 0, none⟩), .pointer (some ⟨M, 0, none⟩), .int .i64 lv, .int .i64 due] : Array Value) h fun rv h' => rv = .bool true ∧ ∃ F', WJ base h' X M F' (bjS s lv) (bjS s lv) (p + (s.L.length - (bjS s lv).L.length)) ∧ WEx X F F' h h' := by
  refine FC_of [(0, .pointer (some ⟨X, 0, none⟩)), (1, .pointer (some ⟨M, 0, none⟩)), (2, .int .i64 lv), (3, .int .i64 due)] Try.func30 rfl Try.ntmps30 (by simp) rfl (fun R hR => ?_)
  refine V_sr T.mix (by kernel_rfl) (fun K1 hK1 => ?_)
  refine S_as rfl ?_
  refine S_nil (hK1 _ _ (V_keep [0, 1, 2, 3] (by simp only [proj, lk, reduceIte, Nat.reduceEqDiff]; rfl) ?_)); clear hK1
  refine V_sr T.mix (by kernel_rfl) (fun K2 hK2 => ?_)
  refine S_mv rfl ?_
  refine S_mv rfl ?_
  refine S_call T.hb56 rfl ?_
  refine FC.mono (backjump_spec h X s p w.r lv w.pb) ?_
  rintro v' h1 ⟨rfl, r1, hE1⟩
  have w1 : WJ base h1 X M F (bjS s lv) s (p + (s.L.length - (bjS s lv).L.length)) := ⟨r1, w.m.ext hE1 (fun b hb e => w.d (e ▸ hb)), w.d, w.lo, by omega⟩
  refine S_as rfl ?_
  refine S_nil (hK2 _ _ (V_keep [1, 2, 3, 9] (by simp only [proj, lk, reduceIte, Nat.reduceEqDiff]; rfl) ?_)); clear hK2
  refine V_sr T.mix (by kernel_rfl) (fun K3 hK3 => ?_)
  refine S_mv rfl ?_
  refine S_mv rfl ?_
  refine S_call T.hb57 rfl ?_
  refine FC.mono (mbackjump_spec h1 M F s w1.m lv) ?_
  rintro v' h2 ⟨rfl, F2, m2, hX2⟩
  have w2 := w1.model m2 hX2
  have hW := (WEx.real (F := F) hE1).trans (WEx.model hX2)
  refine S_as rfl ?_
  refine S_nil (hK3 _ _ (V_keep [3, 9, 10] (by simp only [proj, lk, reduceIte, Nat.reduceEqDiff]; rfl) ?_)); clear hK3
  refine V_sr T.mix (by kernel_rfl) (fun K4 hK4 => ?_)
  refine S_mv rfl ?_
  refine S_mv rfl ?_
  refine S_bin rfl rfl rfl ?_
  refine S_mv rfl ?_
  refine S_dec (fun g62 => ?_) (fun g62 => ?_)
  · skip
    refine S_gt rfl ?_
    refine S_mv rfl ?_
    refine S_gt rfl ?_
    refine S_mv rfl ?_
    refine S_gt rfl ?_
    refine S_bin rfl rfl rfl ?_
    refine S_pt rfl rfl ?_
    refine S_as rfl ?_
    refine S_nil (hK4 _ _ (V_keep [8] (by simp only [proj, lk, reduceIte, Nat.reduceEqDiff]; rfl) ?_)); clear hK4
    refine V_ret ?_
    refine hR _ _ (ret1 rfl rfl ?_)
    exact ⟨by simp [hd], F2, w2, hW⟩
  · skip
    exfalso; exact g62 rfl
set_option maxHeartbeats 400000 in
theorem sametake_spec (base : Nat) (h : Heap) (X M : Nat) (F : Nat → Prop) (s : TS) (p : Nat) (w : WJ base h X M F s s p) (due : Int) (hd : due = takeV s) :
    FC Try.prog 31 (#[.pointer (some ⟨X, 0, none⟩), .pointer (some ⟨M, 0, none⟩), .int .i64 due] : Array Value) h fun rv h' => rv = .bool true ∧ ∃ F', WJ base h' X M F' (takeS s) (takeS s) (p) ∧ WEx X F F' h h' := by
  refine FC_of [(0, .pointer (some ⟨X, 0, none⟩)), (1, .pointer (some ⟨M, 0, none⟩)), (2, .int .i64 due)] Try.func31 rfl Try.ntmps31 (by simp) rfl (fun R hR => ?_)
  refine V_sr T.mix (by kernel_rfl) (fun K1 hK1 => ?_)
  refine S_as rfl ?_
  refine S_nil (hK1 _ _ (V_keep [0, 1, 2] (by simp only [proj, lk, reduceIte, Nat.reduceEqDiff]; rfl) ?_)); clear hK1
  refine V_sr T.mix (by kernel_rfl) (fun K2 hK2 => ?_)
  refine S_mv rfl ?_
  refine S_call T.hb58 rfl ?_
  refine FC.mono (take_spec h X s p w.r) ?_
  rintro v' h1 ⟨rfl, r1, hE1⟩
  have w1 := w.real r1 hE1
  refine S_as rfl ?_
  refine S_nil (hK2 _ _ (V_keep [1, 2, 7] (by simp only [proj, lk, reduceIte, Nat.reduceEqDiff]; rfl) ?_)); clear hK2
  refine V_sr T.mix (by kernel_rfl) (fun K3 hK3 => ?_)
  refine S_mv rfl ?_
  refine S_call T.hb59 rfl ?_
  refine FC.mono (mtake_spec h1 M F s w1.m) ?_
  rintro v' h2 ⟨rfl, F2, m2, hX2⟩
  have w2 := w1.model m2 hX2
  have hW := (WEx.real (F := F) hE1).trans (WEx.model hX2)
  refine S_as rfl ?_
  refine S_nil (hK3 _ _ (V_keep [2, 7, 8] (by simp only [proj, lk, reduceIte, Nat.reduceEqDiff]; rfl) ?_)); clear hK3
  refine V_sr T.mix (by kernel_rfl) (fun K4 hK4 => ?_)
  refine S_mv rfl ?_
  refine S_mv rfl ?_
  refine S_bin rfl rfl rfl ?_
  refine S_mv rfl ?_
  refine S_dec (fun g69 => ?_) (fun g69 => ?_)
  · skip
    refine S_gt rfl ?_
    refine S_mv rfl ?_
    refine S_gt rfl ?_
    refine S_mv rfl ?_
    refine S_gt rfl ?_
    refine S_bin rfl rfl rfl ?_
    refine S_pt rfl rfl ?_
    refine S_as rfl ?_
    refine S_nil (hK4 _ _ (V_keep [6] (by simp only [proj, lk, reduceIte, Nat.reduceEqDiff]; rfl) ?_)); clear hK4
    refine V_ret ?_
    refine hR _ _ (ret1 rfl rfl ?_)
    exact ⟨by simp [hd], F2, w2, hW⟩
  · skip
    exfalso; exact g69 rfl
set_option maxHeartbeats 400000 in
theorem samevar_spec (base : Nat) (h : Heap) (X M : Nat) (F : Nat → Prop) (s : TS) (p : Nat) (w : WJ base h X M F s s p) (v : Int) :
    FC Try.prog 48 (#[.pointer (some ⟨X, 0, none⟩), .pointer (some ⟨M, 0, none⟩), .int .i64 v] : Array Value) h fun v h' => v = .bool true ∧ h = h' := by
  refine FC_of [(0, .pointer (some ⟨X, 0, none⟩)), (1, .pointer (some ⟨M, 0, none⟩)), (2, .int .i64 v)] Try.func48 rfl Try.ntmps48 (by simp) rfl (fun R hR => ?_)
  refine V_sr T.mix (by kernel_rfl) (fun K1 hK1 => ?_)
  refine S_as rfl ?_
  refine S_nil (hK1 _ _ (V_keep [0, 1, 2] (by simp only [proj, lk, reduceIte, Nat.reduceEqDiff]; rfl) ?_)); clear hK1
  refine V_seq (fun K2 hK2 => ?_)
  refine V_sr T.mix (by kernel_rfl) (fun K3 hK3 => ?_)
  refine S_mv rfl ?_
  refine S_mv rfl ?_
  refine S_mv rfl ?_
  refine S_call T.hb37 rfl ?_
  refine FC.mono (samelevelof_spec base h X M F s p w v) ?_
  rintro v' h' ⟨rfl, rfl⟩
  refine S_notb rfl ?_
  refine S_nil (hK3 _ _ (V_keep [0, 1, 2, 11] (by simp only [proj, lk, reduceIte, Nat.reduceEqDiff]; rfl) ?_)); clear hK3
  refine V_condb rfl (fun c123 => ?_) (fun c123 => ?_)
  · skip
    cases c123
  · skip
    refine V_skipk [0, 1, 2] (by simp only [proj, lk, reduceIte, Nat.reduceEqDiff]; rfl) ?_
    refine hK2 _ _ ?_; clear hK2
    refine V_seq (fun K4 hK4 => ?_)
    refine V_sr T.mix (by kernel_rfl) (fun K5 hK5 => ?_)
    refine S_mv rfl ?_
    refine S_mv rfl ?_
    refine S_mv rfl ?_
    refine S_call T.hb38 rfl ?_
    refine FC.mono (samereason_spec base h X M F s p w v) ?_
    rintro v' h' ⟨rfl, rfl⟩
    refine S_notb rfl ?_
    refine S_nil (hK5 _ _ (V_keep [0, 1, 2, 16] (by simp only [proj, lk, reduceIte, Nat.reduceEqDiff]; rfl) ?_)); clear hK5
    refine V_condb rfl (fun c126 => ?_) (fun c126 => ?_)
    · skip
      cases c126
    · skip
      refine V_skipk [0, 1, 2] (by simp only [proj, lk, reduceIte, Nat.reduceEqDiff]; rfl) ?_
      refine hK4 _ _ ?_; clear hK4
      refine V_sr T.mix (by kernel_rfl) (fun K6 hK6 => ?_)
      refine S_mv rfl ?_
      refine S_mv rfl ?_
      refine S_mv rfl ?_
      refine S_call T.hb39 rfl ?_
      refine FC.mono (sameplace_spec base h X M F s p w v) ?_
      rintro v' h' ⟨rfl, rfl⟩
      refine S_as rfl ?_
      refine S_nil (hK6 _ _ (V_keep [6] (by simp only [proj, lk, reduceIte, Nat.reduceEqDiff]; rfl) ?_)); clear hK6
      refine V_ret ?_
      refine hR _ _ (ret1 rfl rfl ?_)
      exact ⟨rfl, rfl⟩
set_option maxHeartbeats 400000 in
theorem alike_spec (base : Nat) (h : Heap) (X M : Nat) (F : Nat → Prop) (s : TS) (p : Nat) (w : WJ base h X M F s s p) :
    FC Try.prog 20 (#[.pointer (some ⟨X, 0, none⟩), .pointer (some ⟨M, 0, none⟩)] : Array Value) h fun v h' => v = .bool true ∧ h = h' := by
  refine FC_of [(0, .pointer (some ⟨X, 0, none⟩)), (1, .pointer (some ⟨M, 0, none⟩))] Try.func20 rfl Try.ntmps20 (by simp) rfl (fun R hR => ?_)
  refine V_sr T.mix (by kernel_rfl) (fun K1 hK1 => ?_)
  refine S_as rfl ?_
  refine S_nil (hK1 _ _ (V_keep [0, 1] (by simp only [proj, lk, reduceIte, Nat.reduceEqDiff]; rfl) ?_)); clear hK1
  refine V_seq (fun K2 hK2 => ?_)
  refine V_sr T.mix (by kernel_rfl) (fun K3 hK3 => ?_)
  refine S_mv rfl ?_
  refine S_mv rfl ?_
  refine S_call T.hb33 rfl ?_
  refine FC.mono (samelevel_spec base h X M F s p w) ?_
  rintro v' h' ⟨rfl, rfl⟩
  refine S_notb rfl ?_
  refine S_nil (hK3 _ _ (V_keep [0, 1, 11] (by simp only [proj, lk, reduceIte, Nat.reduceEqDiff]; rfl) ?_)); clear hK3
  refine V_condb rfl (fun c134 => ?_) (fun c134 => ?_)
  · skip
    cases c134
  · skip
    refine V_skipk [0, 1] (by simp only [proj, lk, reduceIte, Nat.reduceEqDiff]; rfl) ?_
    refine hK2 _ _ ?_; clear hK2
    refine V_seq (fun K4 hK4 => ?_)
    refine V_sr T.mix (by kernel_rfl) (fun K5 hK5 => ?_)
    refine S_mv rfl ?_
    refine S_mv rfl ?_
    refine S_call T.hb34 rfl ?_
    refine FC.mono (samelen_spec base h X M F s p w) ?_
    rintro v' h' ⟨rfl, rfl⟩
    refine S_notb rfl ?_
    refine S_nil (hK5 _ _ (V_keep [0, 1, 15] (by simp only [proj, lk, reduceIte, Nat.reduceEqDiff]; rfl) ?_)); clear hK5
    refine V_condb rfl (fun c137 => ?_) (fun c137 => ?_)
    · skip
      cases c137
    · skip
      refine V_skipk [0, 1] (by simp only [proj, lk, reduceIte, Nat.reduceEqDiff]; rfl) ?_
      refine hK4 _ _ ?_; clear hK4
      refine V_seq (fun K6 hK6 => ?_)
      refine V_sr T.mix (by kernel_rfl) (fun K7 hK7 => ?_)
      refine S_mv rfl ?_
      refine S_mv rfl ?_
      refine S_call T.hb35 rfl ?_
      refine FC.mono (samepending_spec base h X M F s p w) ?_
      rintro v' h' ⟨rfl, rfl⟩
      refine S_notb rfl ?_
      refine S_nil (hK7 _ _ (V_keep [0, 1, 19] (by simp only [proj, lk, reduceIte, Nat.reduceEqDiff]; rfl) ?_)); clear hK7
      refine V_condb rfl (fun c140 => ?_) (fun c140 => ?_)
      · skip
        cases c140
      · skip
        refine V_skipk [0, 1] (by simp only [proj, lk, reduceIte, Nat.reduceEqDiff]; rfl) ?_
        refine hK6 _ _ ?_; clear hK6
        refine V_seq (fun K8 hK8 => ?_)
        refine V_sr T.mix (by kernel_rfl) (fun K9 hK9 => ?_)
        refine S_as rfl ?_
        refine S_nil (hK9 _ _ (V_keep [0, 1, 5] (by simp only [proj, lk, reduceIte, Nat.reduceEqDiff]; rfl) ?_)); clear hK9
        refine V_block ?_
        refine V_loop (fun m l h' => ∃ (n : Int), (-13 ≤ n) ∧ (n ≤ 14) ∧ m = (14 - n).toNat ∧ l = [(0, .pointer (some ⟨X, 0, none⟩)), (1, .pointer (some ⟨M, 0, none⟩)), (5, .int .i64 n)] ∧ h = h') _ ⟨-13, by omega, by omega, rfl, rfl, rfl⟩ ?_
        rintro m l h' ⟨n, hn1, hn2, rfl, rfl, rfl⟩ K10 hK10
        refine V_seq (fun K11 hK11 => ?_)
        refine V_sr T.mix (by kernel_rfl) (fun K12 hK12 => ?_)
        refine S_mv rfl ?_
        refine S_bin rfl rfl rfl ?_
        refine S_nil (hK12 _ _ (V_keep [0, 1, 5, 21] (by simp only [proj, lk, reduceIte, Nat.reduceEqDiff]; rfl) ?_)); clear hK12
        refine V_condp rfl (fun c143 => ?_) (fun c143 => ?_)
        · skip
          refine V_skipk [0, 1, 5] (by simp only [proj, lk, reduceIte, Nat.reduceEqDiff]; rfl) ?_
          refine hK11 _ _ ?_; clear hK11
          refine V_seq (fun K13 hK13 => ?_)
          refine V_block ?_
          refine V_sr T.mix (by kernel_rfl) (fun K14 hK14 => ?_)
          refine S_mv rfl ?_
          refine S_mv rfl ?_
          refine S_mv rfl ?_
          refine S_call T.hb32 rfl ?_
          refine FC.mono (samevalue_spec base h X M F s p w n) ?_
          rintro v' h' ⟨rfl, rfl⟩
          refine S_notb rfl ?_
          refine S_nil (hK14 _ _ (V_keep [0, 1, 5, 28] (by simp only [proj, lk, reduceIte, Nat.reduceEqDiff]; rfl) ?_)); clear hK14
          refine V_condb rfl (fun c144 => ?_) (fun c144 => ?_)
          · skip
            cases c144
          · skip
            refine V_skipk [0, 1, 5] (by simp only [proj, lk, reduceIte, Nat.reduceEqDiff]; rfl) ?_
            refine hK13 _ _ ?_; clear hK13
            refine V_reg T.mix (by kernel_rfl) ?_
            refine S_mv rfl ?_
            first | refine S_add rfl rfl (by omega) (by omega) ?_ | refine S_bin rfl rfl rfl ?_
            refine S_as rfl ?_
            refine S_nilk [0, 1, 5] (by simp only [proj, lk, reduceIte, Nat.reduceEqDiff]; rfl) ?_
            exact hK10 _ _ ⟨_, by omega, n + 1, by omega, by omega, rfl, rfl, rfl⟩
        · skip
          refine V_exitk [0, 1] rfl (by simp only [proj, lk, reduceIte, Nat.reduceEqDiff]; rfl) ?_
          refine hK8 _ _ ?_; clear hK8
          refine V_seq (fun K15 hK15 => ?_)
          refine V_sr T.mix (by kernel_rfl) (fun K16 hK16 => ?_)
          refine S_as rfl ?_
          refine S_nil (hK16 _ _ (V_keep [0, 1, 6] (by simp only [proj, lk, reduceIte, Nat.reduceEqDiff]; rfl) ?_)); clear hK16
          refine V_block ?_
          refine V_loop (fun m l h' => ∃ (n : Int), (-1 ≤ n) ∧ (n ≤ 14) ∧ m = (14 - n).toNat ∧ l = [(0, .pointer (some ⟨X, 0, none⟩)), (1, .pointer (some ⟨M, 0, none⟩)), (6, .int .i64 n)] ∧ h = h') _ ⟨-1, by omega, by omega, rfl, rfl, rfl⟩ ?_
          rintro m l h' ⟨n, hn1, hn2, rfl, rfl, rfl⟩ K17 hK17
          refine V_seq (fun K18 hK18 => ?_)
          refine V_sr T.mix (by kernel_rfl) (fun K19 hK19 => ?_)
          refine S_mv rfl ?_
          refine S_bin rfl rfl rfl ?_
          refine S_nil (hK19 _ _ (V_keep [0, 1, 6, 30] (by simp only [proj, lk, reduceIte, Nat.reduceEqDiff]; rfl) ?_)); clear hK19
          refine V_condp rfl (fun c148 => ?_) (fun c148 => ?_)
          · skip
            refine V_skipk [0, 1, 6] (by simp only [proj, lk, reduceIte, Nat.reduceEqDiff]; rfl) ?_
            refine hK18 _ _ ?_; clear hK18
            refine V_seq (fun K20 hK20 => ?_)
            refine V_block ?_
            refine V_sr T.mix (by kernel_rfl) (fun K21 hK21 => ?_)
            refine S_mv rfl ?_
            refine S_mv rfl ?_
            refine S_mv rfl ?_
            refine S_call T.hb48 rfl ?_
            refine FC.mono (samevar_spec base h X M F s p w n) ?_
            rintro v' h' ⟨rfl, rfl⟩
            refine S_notb rfl ?_
            refine S_nil (hK21 _ _ (V_keep [0, 1, 6, 37] (by simp only [proj, lk, reduceIte, Nat.reduceEqDiff]; rfl) ?_)); clear hK21
            refine V_condb rfl (fun c149 => ?_) (fun c149 => ?_)
            · skip
              cases c149
            · skip
              refine V_skipk [0, 1, 6] (by simp only [proj, lk, reduceIte, Nat.reduceEqDiff]; rfl) ?_
              refine hK20 _ _ ?_; clear hK20
              refine V_reg T.mix (by kernel_rfl) ?_
              refine S_mv rfl ?_
              first | refine S_add rfl rfl (by omega) (by omega) ?_ | refine S_bin rfl rfl rfl ?_
              refine S_as rfl ?_
              refine S_nilk [0, 1, 6] (by simp only [proj, lk, reduceIte, Nat.reduceEqDiff]; rfl) ?_
              exact hK17 _ _ ⟨_, by omega, n + 1, by omega, by omega, rfl, rfl, rfl⟩
          · skip
            refine V_exitk [0, 1] rfl (by simp only [proj, lk, reduceIte, Nat.reduceEqDiff]; rfl) ?_
            refine hK15 _ _ ?_; clear hK15
            refine V_seq (fun K22 hK22 => ?_)
            refine V_sr T.mix (by kernel_rfl) (fun K23 hK23 => ?_)
            refine S_as rfl ?_
            refine S_nil (hK23 _ _ (V_keep [0, 1, 7] (by simp only [proj, lk, reduceIte, Nat.reduceEqDiff]; rfl) ?_)); clear hK23
            refine V_block ?_
            refine V_loop (fun m l h' => ∃ (n : Int), (-1 ≤ n) ∧ (n ≤ 13) ∧ m = (13 - n).toNat ∧ l = [(0, .pointer (some ⟨X, 0, none⟩)), (1, .pointer (some ⟨M, 0, none⟩)), (7, .int .i64 n)] ∧ h = h') _ ⟨-1, by omega, by omega, rfl, rfl, rfl⟩ ?_
            rintro m l h' ⟨n, hn1, hn2, rfl, rfl, rfl⟩ K24 hK24
            refine V_seq (fun K25 hK25 => ?_)
            refine V_sr T.mix (by kernel_rfl) (fun K26 hK26 => ?_)
            refine S_mv rfl ?_
            refine S_bin rfl rfl rfl ?_
            refine S_nil (hK26 _ _ (V_keep [0, 1, 7, 39] (by simp only [proj, lk, reduceIte, Nat.reduceEqDiff]; rfl) ?_)); clear hK26
            refine V_condp rfl (fun c153 => ?_) (fun c153 => ?_)
            · skip
              refine V_skipk [0, 1, 7] (by simp only [proj, lk, reduceIte, Nat.reduceEqDiff]; rfl) ?_
              refine hK25 _ _ ?_; clear hK25
              refine V_seq (fun K27 hK27 => ?_)
              refine V_block ?_
              refine V_sr T.mix (by kernel_rfl) (fun K28 hK28 => ?_)
              refine S_mv rfl ?_
              refine S_mv rfl ?_
              refine S_mv rfl ?_
              refine S_call T.hb36 rfl ?_
              refine FC.mono (sameat_spec base h X M F s p w n) ?_
              rintro v' h' ⟨rfl, rfl⟩
              refine S_notb rfl ?_
              refine S_nil (hK28 _ _ (V_keep [0, 1, 7, 46] (by simp only [proj, lk, reduceIte, Nat.reduceEqDiff]; rfl) ?_)); clear hK28
              refine V_condb rfl (fun c154 => ?_) (fun c154 => ?_)
              · skip
                cases c154
              · skip
                refine V_skipk [0, 1, 7] (by simp only [proj, lk, reduceIte, Nat.reduceEqDiff]; rfl) ?_
                refine hK27 _ _ ?_; clear hK27
                refine V_reg T.mix (by kernel_rfl) ?_
                refine S_mv rfl ?_
                first | refine S_add rfl rfl (by omega) (by omega) ?_ | refine S_bin rfl rfl rfl ?_
                refine S_as rfl ?_
                refine S_nilk [0, 1, 7] (by simp only [proj, lk, reduceIte, Nat.reduceEqDiff]; rfl) ?_
                exact hK24 _ _ ⟨_, by omega, n + 1, by omega, by omega, rfl, rfl, rfl⟩
            · skip
              refine V_exitk [] rfl (by simp only [proj, lk, reduceIte, Nat.reduceEqDiff]; rfl) ?_
              refine hK22 _ _ ?_; clear hK22
              refine V_sr T.mix (by kernel_rfl) (fun K29 hK29 => ?_)
              refine S_as rfl ?_
              refine S_nil (hK29 _ _ (V_keep [4] (by simp only [proj, lk, reduceIte, Nat.reduceEqDiff]; rfl) ?_)); clear hK29
              refine V_ret ?_
              refine hR _ _ (ret1 rfl rfl ?_)
              exact ⟨rfl, rfl⟩
end Go.Proofs.Qxb6500402a
