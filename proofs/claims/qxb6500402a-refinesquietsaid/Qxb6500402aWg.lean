import Derived.Test.Qxb6500402aWf
set_option linter.unusedVariables false
set_option linter.unusedSimpArgs false
namespace Go.Proofs.Qxb6500402a
open Go.Eng Go.Trl

/-- the script, as it lies in the heap -/
def Scr (base : Nat) (h : Heap) (sa : Option Addr) (n : Nat) : Prop := ∀ i, i < n → ∃ sb so, sa = some ⟨sb, so, none⟩ ∧ sb < base ∧ ∃ k a b c s u, cellsH h ⟨sb, so + i * 6, none⟩ 0 6 = some [.int .i64 k, .int .i64 a, .int .i64 b, .int .i64 c, .string s, .string u]
theorem cellsH_same {h h' : Heap} {b o : Nat} (he : h'[b]? = h[b]?) : ∀ (n i : Nat), cellsH h' ⟨b, o, none⟩ i n = cellsH h ⟨b, o, none⟩ i n
  | 0, _ => rfl
  | n + 1, i => by
    have e : cellH h' ((⟨b, o, none⟩ : Addr).add i) = cellH h ((⟨b, o, none⟩ : Addr).add i) := by rw [add_mk]; unfold cellH; simp only [he]
    simp only [cellsH, e, cellsH_same he n (i + 1)]
theorem Scr.ext {base : Nat} {h h' : Heap} {sa : Option Addr} {n : Nat} (hs : Scr base h sa n) (hb : base ≤ h.size) (he : Ext (fun b => base ≤ b) h h') : Scr base h' sa n := by
  intro i hi
  obtain ⟨sb, so, e, hlt, k, a, b, c, s, u, hc⟩ := hs i hi
  exact ⟨sb, so, e, hlt, k, a, b, c, s, u, by rw [cellsH_same (he.2 sb (by omega) (by omega))]; exact hc⟩
theorem puts_all {h : Heap} {b : Nat} {cs cs' : Array Value} {t : TypeId} (hb : B h b cs t) (hs : cs'.size = cs.size) : B (putsH h b 0 cs'.toList) b cs' t := by
  obtain ⟨c2, e2, e3, e4, e5, e6, e7⟩ := putsH_eq cs'.toList 0 h cs hb (by simp; omega)
  refine e2.cong (Array.ext' (List.ext_getElem? fun i => ?_))
  by_cases hi : i < cs'.size
  · have := e4 i (by simpa using hi); simp at this ⊢; rw [this]
  · simp; rw [Array.getElem?_eq_none (by omega), Array.getElem?_eq_none (by omega)]
theorem popF_oth {s : TS} {k oa ob : Int} {p : Nat} (h : k ≠ 4 ∧ k ≠ 1) : popF s k oa ob p = p := by unfold popF; rw [if_neg (by omega)]
theorem st_len (s : TS) (hs : Ok s) (k oa ob : Int) (hk : k = 4 ∨ k = 1) : (stepS s k oa ob).L.length ≤ s.L.length := by
  rcases hk with e | e
  · subst e; unfold stepS bjS; simp; split
    · simp only []; rw [backL_len]; exact cnt_le _ _
    · exact Nat.le_refl _
  · subst e; unfold stepS; simp
set_option maxHeartbeats 1600000 in
theorem play_spec (base : Nat) (h : Heap) (X M : Nat) (F : Nat → Prop) (s : TS) (p : Nat) (w : WJ base h X M F s s p) (k oa ob oc : Int) (os ot : ByteArray) (due : Int) (hdue : due = dueF s k oa ob) (hpb : p + 12 ≤ 1000000000000000) :
    FC Try.prog 16 (#[.pointer (some ⟨X, 0, none⟩), .pointer (some ⟨M, 0, none⟩), .agg #[.int .i64 k, .int .i64 oa, .int .i64 ob, .int .i64 oc, .string os, .string ot], .int .i64 (p : Int), .int .i64 due] : Array Value) h fun rv h' => rv = .bool true ∧ ∃ F', WJ base h' X M F' (stepS s k oa ob) (stepS s k oa ob) (popF s k oa ob p) ∧ WEx X F F' h h' := by
  have hlen := TI.len w.m.ok
  refine FC_of [(0, .pointer (some ⟨X, 0, none⟩)), (1, .pointer (some ⟨M, 0, none⟩)), (2, .agg #[.int .i64 k, .int .i64 oa, .int .i64 ob, .int .i64 oc, .string os, .string ot]), (3, .int .i64 (p : Int)), (4, .int .i64 due)] Try.func16 rfl Try.ntmps16 (by simp) rfl (fun R hR => ?_)
  refine V_sr T.mix (by kernel_rfl) (fun K1 hK1 => ?_)
  refine S_boxA rfl ?_
  generalize hh : Array.push h _ = h1
  have o : B h1 h.size #[.int .i64 k, .int .i64 oa, .int .i64 ob, .int .i64 oc, .string os, .string ot] 36 := by rw [← hh]; exact B.new _ _ _
  have hEh1 : Ext (fun _ => False) h h1 := by rw [← hh]; exact Ext.push _ _ _
  clear hh
  have o0 : cellH h1 ⟨h.size, 0, none⟩ = some (.int .i64 k) := o.cell 0
  have o1 : cellH h1 ⟨h.size, 1, none⟩ = some (.int .i64 oa) := o.cell 1
  have o2 : cellH h1 ⟨h.size, 2, none⟩ = some (.int .i64 ob) := o.cell 2
  replace w := w.ext hEh1 (fun _ f => f.elim)
  refine S_as rfl ?_
  refine S_nil (hK1 _ _ (V_keep [0, 1, 3, 4, 7] (by simp only [proj, lk, reduceIte, Nat.reduceEqDiff]; rfl) ?_)); clear hK1
  refine V_seq (fun K2 hK2 => ?_)
  refine V_sr T.mix (by kernel_rfl) (fun K3 hK3 => ?_)
  first | refine S_fa0 T.f36_0 rfl ?_ | refine S_fa T.f36_0 rfl ?_
  refine S_ldK T.ag3 rfl (fun K' hK' => ?_)
  simp (disch := omega) only [o0, o1, o2, oP_some, Nat.add_zero]
  refine hK' _ ?_; clear hK' K'
  refine S_nil (hK3 _ _ (V_keep [0, 1, 3, 4, 7, 12] (by simp only [proj, lk, reduceIte, Nat.reduceEqDiff]; rfl) ?_)); clear hK3
  refine V_block ?_
  refine V_sr T.mix (by kernel_rfl) (fun K4 hK4 => ?_)
  refine S_bin rfl rfl rfl ?_
  refine S_as rfl ?_
  refine S_nil (hK4 _ _ (V_keep [0, 1, 3, 4, 7, 12, 13] (by simp only [proj, lk, reduceIte, Nat.reduceEqDiff]; rfl) ?_)); clear hK4
  refine V_condp rfl (fun c233 => ?_) (fun c233 => ?_)
  · skip
    have e1 := sp1 (s := s) (oa := oa) (ob := ob) c233
    have e4 : popF s k oa ob p = p + s.L.length := by unfold popF; rw [if_pos (.inr c233), e1]; simp
    refine V_sr T.mix (by kernel_rfl) (fun K5 hK5 => ?_)
    refine S_mv rfl ?_
    refine S_mv rfl ?_
    refine S_call T.hb27 rfl ?_
    refine FC.mono (samereset_spec base h1 X M F s p w (by omega)) ?_
    rintro v' h2 ⟨rfl, F2, w2, hW⟩
    replace hW := (WEx.quiet (X := X) (F := F) hEh1).trans hW
    refine S_as rfl ?_
    refine S_nil (hK5 _ _ (V_keep [10] (by simp only [proj, lk, reduceIte, Nat.reduceEqDiff]; rfl) ?_)); clear hK5
    refine V_ret ?_
    refine hR _ _ (ret1 rfl rfl ?_)
    exact ⟨rfl, F2, by rw [e1, e4]; exact w2, hW⟩
  · skip
    refine V_sr T.mix (by kernel_rfl) (fun K6 hK6 => ?_)
    refine S_bin rfl rfl rfl ?_
    refine S_as rfl ?_
    refine S_nil (hK6 _ _ (V_keep [0, 1, 3, 4, 7, 12, 18] (by simp only [proj, lk, reduceIte, Nat.reduceEqDiff]; rfl) ?_)); clear hK6
    refine V_condp rfl (fun c235 => ?_) (fun c235 => ?_)
    · skip
      have e1 := sp2 (s := s) (oa := oa) (ob := ob) c235
      have e4 := popF_oth (s := s) (oa := oa) (ob := ob) (p := p) (k := k) (by omega)
      refine V_sr T.mix (by kernel_rfl) (fun K7 hK7 => ?_)
      refine S_mv rfl ?_
      refine S_mv rfl ?_
      first | refine S_fa0 T.f36_1 rfl ?_ | refine S_fa T.f36_1 rfl ?_
      refine S_ldK T.ag3 rfl (fun K' hK' => ?_)
      simp (disch := omega) only [o0, o1, o2, oP_some, Nat.add_zero]
      refine hK' _ ?_; clear hK' K'
      refine S_mv rfl ?_
      refine S_call T.hb28 rfl ?_
      refine FC.mono (samedecide_spec base h1 X M F s p w oa due (by rw [hdue, e1.2])) ?_
      rintro v' h2 ⟨rfl, F2, w2, hW⟩
      replace hW := (WEx.quiet (X := X) (F := F) hEh1).trans hW
      refine S_as rfl ?_
      refine S_nil (hK7 _ _ (V_keep [10] (by simp only [proj, lk, reduceIte, Nat.reduceEqDiff]; rfl) ?_)); clear hK7
      refine V_ret ?_
      refine hR _ _ (ret1 rfl rfl ?_)
      exact ⟨rfl, F2, by rw [e1.1, e4]; exact w2, hW⟩
    · skip
      refine V_sr T.mix (by kernel_rfl) (fun K8 hK8 => ?_)
      refine S_bin rfl rfl rfl ?_
      refine S_as rfl ?_
      refine S_nil (hK8 _ _ (V_keep [0, 1, 3, 4, 7, 12, 26] (by simp only [proj, lk, reduceIte, Nat.reduceEqDiff]; rfl) ?_)); clear hK8
      refine V_condp rfl (fun c237 => ?_) (fun c237 => ?_)
      · skip
        have e1 := sp3 (s := s) (oa := oa) (ob := ob) c237
        have e4 := popF_oth (s := s) (oa := oa) (ob := ob) (p := p) (k := k) (by omega)
        refine V_sr T.mix (by kernel_rfl) (fun K9 hK9 => ?_)
        refine S_mv rfl ?_
        refine S_mv rfl ?_
        first | refine S_fa0 T.f36_1 rfl ?_ | refine S_fa T.f36_1 rfl ?_
        refine S_ldK T.ag3 rfl (fun K' hK' => ?_)
        simp (disch := omega) only [o0, o1, o2, oP_some, Nat.add_zero]
        refine hK' _ ?_; clear hK' K'
        first | refine S_fa0 T.f36_2 rfl ?_ | refine S_fa T.f36_2 rfl ?_
        refine S_ldK T.ag3 rfl (fun K' hK' => ?_)
        simp (disch := omega) only [o0, o1, o2, oP_some, Nat.add_zero]
        refine hK' _ ?_; clear hK' K'
        refine S_mv rfl ?_
        refine S_call T.hb29 rfl ?_
        refine FC.mono (sameassign_spec base h1 X M F s p w oa ob due (by rw [hdue, e1.2])) ?_
        rintro v' h2 ⟨rfl, F2, w2, hW⟩
        replace hW := (WEx.quiet (X := X) (F := F) hEh1).trans hW
        refine S_as rfl ?_
        refine S_nil (hK9 _ _ (V_keep [10] (by simp only [proj, lk, reduceIte, Nat.reduceEqDiff]; rfl) ?_)); clear hK9
        refine V_ret ?_
        refine hR _ _ (ret1 rfl rfl ?_)
        exact ⟨rfl, F2, by rw [e1.1, e4]; exact w2, hW⟩
      · skip
        refine V_sr T.mix (by kernel_rfl) (fun K10 hK10 => ?_)
        refine S_bin rfl rfl rfl ?_
        refine S_as rfl ?_
        refine S_nil (hK10 _ _ (V_keep [0, 1, 3, 4, 7, 12, 36] (by simp only [proj, lk, reduceIte, Nat.reduceEqDiff]; rfl) ?_)); clear hK10
        refine V_condp rfl (fun c239 => ?_) (fun c239 => ?_)
        · skip
          have e1 := sp4 (s := s) (oa := oa) (ob := ob) c239
          have e4 : popF s k oa ob p = p + (s.L.length - (bjS s oa).L.length) := by unfold popF; rw [if_pos (.inl c239), e1.1]
          refine V_sr T.mix (by kernel_rfl) (fun K11 hK11 => ?_)
          refine S_mv rfl ?_
          refine S_mv rfl ?_
          first | refine S_fa0 T.f36_1 rfl ?_ | refine S_fa T.f36_1 rfl ?_
          refine S_ldK T.ag3 rfl (fun K' hK' => ?_)
          simp (disch := omega) only [o0, o1, o2, oP_some, Nat.add_zero]
          refine hK' _ ?_; clear hK' K'
          refine S_mv rfl ?_
          refine S_call T.hb30 rfl ?_
          refine FC.mono (samebackjump_spec base h1 X M F s p w oa due (by rw [hdue, e1.2]) (by omega)) ?_
          rintro v' h2 ⟨rfl, F2, w2, hW⟩
          replace hW := (WEx.quiet (X := X) (F := F) hEh1).trans hW
          refine S_as rfl ?_
          refine S_nil (hK11 _ _ (V_keep [10] (by simp only [proj, lk, reduceIte, Nat.reduceEqDiff]; rfl) ?_)); clear hK11
          refine V_ret ?_
          refine hR _ _ (ret1 rfl rfl ?_)
          exact ⟨rfl, F2, by rw [e1.1, e4]; exact w2, hW⟩
        · skip
          refine V_sr T.mix (by kernel_rfl) (fun K12 hK12 => ?_)
          refine S_bin rfl rfl rfl ?_
          refine S_as rfl ?_
          refine S_nil (hK12 _ _ (V_keep [0, 1, 3, 4, 7, 12, 44] (by simp only [proj, lk, reduceIte, Nat.reduceEqDiff]; rfl) ?_)); clear hK12
          refine V_condp rfl (fun c241 => ?_) (fun c241 => ?_)
          · skip
            have e1 := sp5 (s := s) (oa := oa) (ob := ob) c241
            have e4 := popF_oth (s := s) (oa := oa) (ob := ob) (p := p) (k := k) (by omega)
            refine V_sr T.mix (by kernel_rfl) (fun K13 hK13 => ?_)
            refine S_mv rfl ?_
            refine S_mv rfl ?_
            refine S_mv rfl ?_
            refine S_call T.hb31 rfl ?_
            refine FC.mono (sametake_spec base h1 X M F s p w due (by rw [hdue, e1.2])) ?_
            rintro v' h2 ⟨rfl, F2, w2, hW⟩
            replace hW := (WEx.quiet (X := X) (F := F) hEh1).trans hW
            refine S_as rfl ?_
            refine S_nil (hK13 _ _ (V_keep [10] (by simp only [proj, lk, reduceIte, Nat.reduceEqDiff]; rfl) ?_)); clear hK13
            refine V_ret ?_
            refine hR _ _ (ret1 rfl rfl ?_)
            exact ⟨rfl, F2, by rw [e1.1, e4]; exact w2, hW⟩
          · skip
            refine V_sr T.mix (by kernel_rfl) (fun K14 hK14 => ?_)
            refine S_bin rfl rfl rfl ?_
            refine S_as rfl ?_
            refine S_nil (hK14 _ _ (V_keep [0, 1, 3, 7, 12, 50] (by simp only [proj, lk, reduceIte, Nat.reduceEqDiff]; rfl) ?_)); clear hK14
            refine V_condp rfl (fun c243 => ?_) (fun c243 => ?_)
            · skip
              have e2 : stepS s k oa ob = s := st_oth (by omega)
              have e3 := popF_oth (s := s) (oa := oa) (ob := ob) (p := p) (k := k) (by omega)
              refine V_sr T.mix (by kernel_rfl) (fun K15 hK15 => ?_)
              refine S_mv rfl ?_
              refine S_mv rfl ?_
              first | refine S_fa0 T.f36_1 rfl ?_ | refine S_fa T.f36_1 rfl ?_
              refine S_ldK T.ag3 rfl (fun K' hK' => ?_)
              simp (disch := omega) only [o0, o1, o2, oP_some, Nat.add_zero]
              refine hK' _ ?_; clear hK' K'
              refine S_call T.hb32 rfl ?_
              refine FC.mono (samevalue_spec base h1 X M F s p w oa) ?_
              rintro v' h' ⟨rfl, rfl⟩
              refine S_as rfl ?_
              refine S_nil (hK15 _ _ (V_keep [10] (by simp only [proj, lk, reduceIte, Nat.reduceEqDiff]; rfl) ?_)); clear hK15
              refine V_ret ?_
              refine hR _ _ (ret1 rfl rfl ?_)
              exact ⟨by simp, F, by rw [e2, e3]; exact w, WEx.quiet hEh1⟩
            · skip
              refine V_sr T.mix (by kernel_rfl) (fun K16 hK16 => ?_)
              refine S_bin rfl rfl rfl ?_
              refine S_as rfl ?_
              refine S_nil (hK16 _ _ (V_keep [0, 1, 3, 7, 12, 57] (by simp only [proj, lk, reduceIte, Nat.reduceEqDiff]; rfl) ?_)); clear hK16
              refine V_condp rfl (fun c245 => ?_) (fun c245 => ?_)
              · skip
                have e2 : stepS s k oa ob = s := st_oth (by omega)
                have e3 := popF_oth (s := s) (oa := oa) (ob := ob) (p := p) (k := k) (by omega)
                refine V_sr T.mix (by kernel_rfl) (fun K17 hK17 => ?_)
                refine S_mv rfl ?_
                refine S_mv rfl ?_
                refine S_call T.hb33 rfl ?_
                refine FC.mono (samelevel_spec base h1 X M F s p w) ?_
                rintro v' h' ⟨rfl, rfl⟩
                refine S_as rfl ?_
                refine S_nil (hK17 _ _ (V_keep [10] (by simp only [proj, lk, reduceIte, Nat.reduceEqDiff]; rfl) ?_)); clear hK17
                refine V_ret ?_
                refine hR _ _ (ret1 rfl rfl ?_)
                exact ⟨by simp, F, by rw [e2, e3]; exact w, WEx.quiet hEh1⟩
              · skip
                refine V_sr T.mix (by kernel_rfl) (fun K18 hK18 => ?_)
                refine S_bin rfl rfl rfl ?_
                refine S_as rfl ?_
                refine S_nil (hK18 _ _ (V_keep [0, 1, 3, 7, 12, 62] (by simp only [proj, lk, reduceIte, Nat.reduceEqDiff]; rfl) ?_)); clear hK18
                refine V_condp rfl (fun c247 => ?_) (fun c247 => ?_)
                · skip
                  have e2 : stepS s k oa ob = s := st_oth (by omega)
                  have e3 := popF_oth (s := s) (oa := oa) (ob := ob) (p := p) (k := k) (by omega)
                  refine V_sr T.mix (by kernel_rfl) (fun K19 hK19 => ?_)
                  refine S_mv rfl ?_
                  refine S_mv rfl ?_
                  refine S_call T.hb34 rfl ?_
                  refine FC.mono (samelen_spec base h1 X M F s p w) ?_
                  rintro v' h' ⟨rfl, rfl⟩
                  refine S_as rfl ?_
                  refine S_nil (hK19 _ _ (V_keep [10] (by simp only [proj, lk, reduceIte, Nat.reduceEqDiff]; rfl) ?_)); clear hK19
                  refine V_ret ?_
                  refine hR _ _ (ret1 rfl rfl ?_)
                  exact ⟨by simp, F, by rw [e2, e3]; exact w, WEx.quiet hEh1⟩
                · skip
                  refine V_sr T.mix (by kernel_rfl) (fun K20 hK20 => ?_)
                  refine S_bin rfl rfl rfl ?_
                  refine S_as rfl ?_
                  refine S_nil (hK20 _ _ (V_keep [0, 1, 3, 7, 12, 67] (by simp only [proj, lk, reduceIte, Nat.reduceEqDiff]; rfl) ?_)); clear hK20
                  refine V_condp rfl (fun c249 => ?_) (fun c249 => ?_)
                  · skip
                    have e2 : stepS s k oa ob = s := st_oth (by omega)
                    have e3 := popF_oth (s := s) (oa := oa) (ob := ob) (p := p) (k := k) (by omega)
                    refine V_sr T.mix (by kernel_rfl) (fun K21 hK21 => ?_)
                    refine S_mv rfl ?_
                    refine S_mv rfl ?_
                    refine S_call T.hb35 rfl ?_
                    refine FC.mono (samepending_spec base h1 X M F s p w) ?_
                    rintro v' h' ⟨rfl, rfl⟩
                    refine S_as rfl ?_
                    refine S_nil (hK21 _ _ (V_keep [10] (by simp only [proj, lk, reduceIte, Nat.reduceEqDiff]; rfl) ?_)); clear hK21
                    refine V_ret ?_
                    refine hR _ _ (ret1 rfl rfl ?_)
                    exact ⟨by simp, F, by rw [e2, e3]; exact w, WEx.quiet hEh1⟩
                  · skip
                    refine V_sr T.mix (by kernel_rfl) (fun K22 hK22 => ?_)
                    refine S_bin rfl rfl rfl ?_
                    refine S_as rfl ?_
                    refine S_nil (hK22 _ _ (V_keep [0, 1, 3, 7, 12, 72] (by simp only [proj, lk, reduceIte, Nat.reduceEqDiff]; rfl) ?_)); clear hK22
                    refine V_condp rfl (fun c251 => ?_) (fun c251 => ?_)
                    · skip
                      have e2 : stepS s k oa ob = s := st_oth (by omega)
                      have e3 := popF_oth (s := s) (oa := oa) (ob := ob) (p := p) (k := k) (by omega)
                      refine V_sr T.mix (by kernel_rfl) (fun K23 hK23 => ?_)
                      refine S_mv rfl ?_
                      refine S_mv rfl ?_
                      first | refine S_fa0 T.f36_1 rfl ?_ | refine S_fa T.f36_1 rfl ?_
                      refine S_ldK T.ag3 rfl (fun K' hK' => ?_)
                      simp (disch := omega) only [o0, o1, o2, oP_some, Nat.add_zero]
                      refine hK' _ ?_; clear hK' K'
                      refine S_call T.hb36 rfl ?_
                      refine FC.mono (sameat_spec base h1 X M F s p w oa) ?_
                      rintro v' h' ⟨rfl, rfl⟩
                      refine S_as rfl ?_
                      refine S_nil (hK23 _ _ (V_keep [10] (by simp only [proj, lk, reduceIte, Nat.reduceEqDiff]; rfl) ?_)); clear hK23
                      refine V_ret ?_
                      refine hR _ _ (ret1 rfl rfl ?_)
                      exact ⟨by simp, F, by rw [e2, e3]; exact w, WEx.quiet hEh1⟩
                    · skip
                      refine V_sr T.mix (by kernel_rfl) (fun K24 hK24 => ?_)
                      refine S_bin rfl rfl rfl ?_
                      refine S_as rfl ?_
                      refine S_nil (hK24 _ _ (V_keep [0, 1, 3, 7, 12, 79] (by simp only [proj, lk, reduceIte, Nat.reduceEqDiff]; rfl) ?_)); clear hK24
                      refine V_condp rfl (fun c253 => ?_) (fun c253 => ?_)
                      · skip
                        have e2 : stepS s k oa ob = s := st_oth (by omega)
                        have e3 := popF_oth (s := s) (oa := oa) (ob := ob) (p := p) (k := k) (by omega)
                        refine V_sr T.mix (by kernel_rfl) (fun K25 hK25 => ?_)
                        refine S_mv rfl ?_
                        refine S_mv rfl ?_
                        first | refine S_fa0 T.f36_1 rfl ?_ | refine S_fa T.f36_1 rfl ?_
                        refine S_ldK T.ag3 rfl (fun K' hK' => ?_)
                        simp (disch := omega) only [o0, o1, o2, oP_some, Nat.add_zero]
                        refine hK' _ ?_; clear hK' K'
                        refine S_call T.hb37 rfl ?_
                        refine FC.mono (samelevelof_spec base h1 X M F s p w oa) ?_
                        rintro v' h' ⟨rfl, rfl⟩
                        refine S_as rfl ?_
                        refine S_nil (hK25 _ _ (V_keep [10] (by simp only [proj, lk, reduceIte, Nat.reduceEqDiff]; rfl) ?_)); clear hK25
                        refine V_ret ?_
                        refine hR _ _ (ret1 rfl rfl ?_)
                        exact ⟨by simp, F, by rw [e2, e3]; exact w, WEx.quiet hEh1⟩
                      · skip
                        refine V_sr T.mix (by kernel_rfl) (fun K26 hK26 => ?_)
                        refine S_bin rfl rfl rfl ?_
                        refine S_as rfl ?_
                        refine S_nil (hK26 _ _ (V_keep [0, 1, 3, 7, 12, 86] (by simp only [proj, lk, reduceIte, Nat.reduceEqDiff]; rfl) ?_)); clear hK26
                        refine V_condp rfl (fun c255 => ?_) (fun c255 => ?_)
                        · skip
                          have e2 : stepS s k oa ob = s := st_oth (by omega)
                          have e3 := popF_oth (s := s) (oa := oa) (ob := ob) (p := p) (k := k) (by omega)
                          refine V_sr T.mix (by kernel_rfl) (fun K27 hK27 => ?_)
                          refine S_mv rfl ?_
                          refine S_mv rfl ?_
                          first | refine S_fa0 T.f36_1 rfl ?_ | refine S_fa T.f36_1 rfl ?_
                          refine S_ldK T.ag3 rfl (fun K' hK' => ?_)
                          simp (disch := omega) only [o0, o1, o2, oP_some, Nat.add_zero]
                          refine hK' _ ?_; clear hK' K'
                          refine S_call T.hb38 rfl ?_
                          refine FC.mono (samereason_spec base h1 X M F s p w oa) ?_
                          rintro v' h' ⟨rfl, rfl⟩
                          refine S_as rfl ?_
                          refine S_nil (hK27 _ _ (V_keep [10] (by simp only [proj, lk, reduceIte, Nat.reduceEqDiff]; rfl) ?_)); clear hK27
                          refine V_ret ?_
                          refine hR _ _ (ret1 rfl rfl ?_)
                          exact ⟨by simp, F, by rw [e2, e3]; exact w, WEx.quiet hEh1⟩
                        · skip
                          refine V_sr T.mix (by kernel_rfl) (fun K28 hK28 => ?_)
                          refine S_bin rfl rfl rfl ?_
                          refine S_as rfl ?_
                          refine S_nil (hK28 _ _ (V_keep [0, 1, 3, 7, 12, 93] (by simp only [proj, lk, reduceIte, Nat.reduceEqDiff]; rfl) ?_)); clear hK28
                          refine V_condp rfl (fun c257 => ?_) (fun c257 => ?_)
                          · skip
                            have e2 : stepS s k oa ob = s := st_oth (by omega)
                            have e3 := popF_oth (s := s) (oa := oa) (ob := ob) (p := p) (k := k) (by omega)
                            refine V_sr T.mix (by kernel_rfl) (fun K29 hK29 => ?_)
                            refine S_mv rfl ?_
                            refine S_mv rfl ?_
                            first | refine S_fa0 T.f36_1 rfl ?_ | refine S_fa T.f36_1 rfl ?_
                            refine S_ldK T.ag3 rfl (fun K' hK' => ?_)
                            simp (disch := omega) only [o0, o1, o2, oP_some, Nat.add_zero]
                            refine hK' _ ?_; clear hK' K'
                            refine S_call T.hb39 rfl ?_
                            refine FC.mono (sameplace_spec base h1 X M F s p w oa) ?_
                            rintro v' h' ⟨rfl, rfl⟩
                            refine S_as rfl ?_
                            refine S_nil (hK29 _ _ (V_keep [10] (by simp only [proj, lk, reduceIte, Nat.reduceEqDiff]; rfl) ?_)); clear hK29
                            refine V_ret ?_
                            refine hR _ _ (ret1 rfl rfl ?_)
                            exact ⟨by simp, F, by rw [e2, e3]; exact w, WEx.quiet hEh1⟩
                          · skip
                            refine V_sr T.mix (by kernel_rfl) (fun K30 hK30 => ?_)
                            refine S_bin rfl rfl rfl ?_
                            refine S_as rfl ?_
                            refine S_nil (hK30 _ _ (V_keep [0, 3, 12, 100] (by simp only [proj, lk, reduceIte, Nat.reduceEqDiff]; rfl) ?_)); clear hK30
                            refine V_condp rfl (fun c259 => ?_) (fun c259 => ?_)
                            · skip
                              have e2 : stepS s k oa ob = s := st_oth (by omega)
                              have e3 := popF_oth (s := s) (oa := oa) (ob := ob) (p := p) (k := k) (by omega)
                              refine V_sr T.mix (by kernel_rfl) (fun K31 hK31 => ?_)
                              refine S_mv rfl ?_
                              refine S_call T.hb19 rfl ?_
                              refine FC.mono (check_spec h1 X s p w.r w.pb) ?_
                              rintro v' h' ⟨rfl, rfl⟩
                              refine S_as rfl ?_
                              refine S_nil (hK31 _ _ (V_keep [10] (by simp only [proj, lk, reduceIte, Nat.reduceEqDiff]; rfl) ?_)); clear hK31
                              refine V_ret ?_
                              refine hR _ _ (ret1 rfl rfl ?_)
                              exact ⟨by simp, F, by rw [e2, e3]; exact w, WEx.quiet hEh1⟩
                            · skip
                              refine V_sr T.mix (by kernel_rfl) (fun K32 hK32 => ?_)
                              refine S_bin rfl rfl rfl ?_
                              refine S_as rfl ?_
                              refine S_nil (hK32 _ _ (V_keep [0, 3, 104] (by simp only [proj, lk, reduceIte, Nat.reduceEqDiff]; rfl) ?_)); clear hK32
                              refine V_condp rfl (fun c261 => ?_) (fun c261 => ?_)
                              · skip
                                have e2 : stepS s k oa ob = s := st_oth (by omega)
                                have e3 := popF_oth (s := s) (oa := oa) (ob := ob) (p := p) (k := k) (by omega)
                                refine V_sr T.mix (by kernel_rfl) (fun K33 hK33 => ?_)
                                refine S_mv rfl ?_
                                refine S_call T.hb21 rfl ?_
                                refine FC.mono (pops_spec h1 X s p w.r) ?_
                                rintro v' h' ⟨rfl, rfl⟩
                                refine S_mv rfl ?_
                                refine S_bin rfl rfl rfl ?_
                                refine S_as rfl ?_
                                refine S_nil (hK33 _ _ (V_keep [10] (by simp only [proj, lk, reduceIte, Nat.reduceEqDiff]; rfl) ?_)); clear hK33
                                refine V_ret ?_
                                refine hR _ _ (ret1 rfl rfl ?_)
                                exact ⟨by simp, F, by rw [e2, e3]; exact w, WEx.quiet hEh1⟩
                              · skip
                                have e2 : stepS s k oa ob = s := st_oth (by omega)
                                have e3 := popF_oth (s := s) (oa := oa) (ob := ob) (p := p) (k := k) (by omega)
                                refine V_skipk [] (by simp only [proj, lk, reduceIte, Nat.reduceEqDiff]; rfl) ?_
                                refine hK2 _ _ ?_; clear hK2
                                refine V_sr T.mix (by kernel_rfl) (fun K34 hK34 => ?_)
                                refine S_as rfl ?_
                                refine S_nil (hK34 _ _ (V_keep [10] (by simp only [proj, lk, reduceIte, Nat.reduceEqDiff]; rfl) ?_)); clear hK34
                                refine V_ret ?_
                                refine hR _ _ (ret1 rfl rfl ?_)
                                exact ⟨by simp, F, by rw [e2, e3]; exact w, WEx.quiet hEh1⟩
set_option maxHeartbeats 400000 in
theorem seen_spec (base : Nat) (h : Heap) (X M : Nat) (F : Nat → Prop) (s : TS) (p : Nat) (w : WJ base h X M F s s p) :
    FC Try.prog 11 (#[.pointer (some ⟨X, 0, none⟩), .pointer (some ⟨M, 0, none⟩), .int .i64 (p : Int)] : Array Value) h fun v h' => v = .bool true ∧ h = h' := by
  refine FC_of [(0, .pointer (some ⟨X, 0, none⟩)), (1, .pointer (some ⟨M, 0, none⟩)), (2, .int .i64 (p : Int))] Try.func11 rfl Try.ntmps11 (by simp) rfl (fun R hR => ?_)
  refine V_sr T.mix (by kernel_rfl) (fun K1 hK1 => ?_)
  refine S_as rfl ?_
  refine S_nil (hK1 _ _ (V_keep [0, 1, 2] (by simp only [proj, lk, reduceIte, Nat.reduceEqDiff]; rfl) ?_)); clear hK1
  refine V_seq (fun K2 hK2 => ?_)
  refine V_sr T.mix (by kernel_rfl) (fun K3 hK3 => ?_)
  refine S_mv rfl ?_
  refine S_call T.hb19 rfl ?_
  refine FC.mono (check_spec h X s p w.r w.pb) ?_
  rintro v' h' ⟨rfl, rfl⟩
  refine S_notb rfl ?_
  refine S_nil (hK3 _ _ (V_keep [0, 1, 2, 9] (by simp only [proj, lk, reduceIte, Nat.reduceEqDiff]; rfl) ?_)); clear hK3
  refine V_condb rfl (fun c269 => ?_) (fun c269 => ?_)
  · skip
    cases c269
  · skip
    refine V_skipk [0, 1, 2] (by simp only [proj, lk, reduceIte, Nat.reduceEqDiff]; rfl) ?_
    refine hK2 _ _ ?_; clear hK2
    refine V_seq (fun K4 hK4 => ?_)
    refine V_sr T.mix (by kernel_rfl) (fun K5 hK5 => ?_)
    refine S_mv rfl ?_
    refine S_mv rfl ?_
    refine S_call T.hb20 rfl ?_
    refine FC.mono (alike_spec base h X M F s p w) ?_
    rintro v' h' ⟨rfl, rfl⟩
    refine S_notb rfl ?_
    refine S_nil (hK5 _ _ (V_keep [0, 2, 13] (by simp only [proj, lk, reduceIte, Nat.reduceEqDiff]; rfl) ?_)); clear hK5
    refine V_condb rfl (fun c272 => ?_) (fun c272 => ?_)
    · skip
      cases c272
    · skip
      refine V_skipk [0, 2] (by simp only [proj, lk, reduceIte, Nat.reduceEqDiff]; rfl) ?_
      refine hK4 _ _ ?_; clear hK4
      refine V_sr T.mix (by kernel_rfl) (fun K6 hK6 => ?_)
      refine S_mv rfl ?_
      refine S_call T.hb21 rfl ?_
      refine FC.mono (pops_spec h X s p w.r) ?_
      rintro v' h' ⟨rfl, rfl⟩
      refine S_mv rfl ?_
      refine S_bin rfl rfl rfl ?_
      refine S_as rfl ?_
      refine S_nil (hK6 _ _ (V_keep [6] (by simp only [proj, lk, reduceIte, Nat.reduceEqDiff]; rfl) ?_)); clear hK6
      refine V_ret ?_
      refine hR _ _ (ret1 rfl rfl ?_)
      exact ⟨by simp, rfl⟩
set_option maxHeartbeats 400000 in
theorem ground_spec (h : Heap) :
    FC Try.prog 8 (#[] : Array Value) h fun v h' => v = .agg #[] ∧ Ext (fun _ => False) h h' := by
  refine FC_of [] Try.func8 rfl Try.ntmps8 (by simp) rfl (fun R hR => ?_)
  refine V_sr T.mix (by kernel_rfl) (fun K1 hK1 => ?_)
  refine S_allocA T.z28 ?_
  generalize hh : Array.push h _ = h1
  have hB : B h1 h.size #[] 28 := by rw [← hh]; exact B.new _ _ _
  have hE1 : Ext (fun _ => False) h h1 := by rw [← hh]; exact Ext.push _ _ _
  clear hh
  refine S_nil (hK1 _ _ (V_keep [0] (by simp only [proj, lk, reduceIte, Nat.reduceEqDiff]; rfl) ?_)); clear hK1
  refine V_sr T.mix (by kernel_rfl) (fun K2 hK2 => ?_)
  refine S_bld rfl (T.bld28) ?_
  refine S_stl (vs := []) T.sz28 rfl rfl rfl rfl (fun j hj => absurd hj (by omega)) ?_
  refine S_nil (hK2 _ _ (V_keep [0] (by simp only [proj, lk, reduceIte, Nat.reduceEqDiff]; rfl) ?_)); clear hK2
  refine V_ret ?_
  refine hR _ _ (retc1 rfl rfl T.ag28 hB (by rfl) ?_)
  exact ⟨rfl, hE1⟩
set_option maxHeartbeats 3200000 in
theorem walk_spec (h : Heap) (sa : Option Addr) (n cap : Nat) (q : Bool) (hs : Scr h.size h sa n) (hn : n ≤ 9223372036854775807) :
    FC Try.prog 7 (#[.slice sa n cap, .bool (decide (q = true))] : Array Value) h fun v h' => (∃ j : Int, v = .tuple #[.int .i64 (-1), .int .i64 j]) ∧ Ext (fun b => h.size ≤ b) h h' := by
  refine FC_of [(0, .slice sa n cap), (1, .bool (decide (q = true)))] Try.func7 rfl Try.ntmps7 (by simp) rfl (fun R hR => ?_)
  refine V_sr T.mix (by kernel_rfl) (fun K1 hK1 => ?_)
  refine S_as rfl ?_
  refine S_as rfl ?_
  refine S_nil (hK1 _ _ (V_keep [0, 1] (by simp only [proj, lk, reduceIte, Nat.reduceEqDiff]; rfl) ?_)); clear hK1
  refine V_sr T.mix (by kernel_rfl) (fun K2 hK2 => ?_)
  refine S_call T.hb8 rfl ?_
  refine FC.mono (ground_spec h) ?_
  rintro v' h0 ⟨rfl, hE0⟩
  refine S_nil (hK2 _ _ (V_keep [0, 1] (by simp only [proj, lk, reduceIte, Nat.reduceEqDiff]; rfl) ?_)); clear hK2
  refine V_sr T.mix (by kernel_rfl) (fun K3 hK3 => ?_)
  refine S_call T.hb9 rfl ?_
  generalize hXe : h0.size = X
  refine FC.mono (new_spec h0) ?_
  rintro v' h1 ⟨rfl, r1, hE1⟩
  rw [hXe] at r1
  rw [hXe]
  refine S_as rfl ?_
  refine S_nil (hK3 _ _ (V_keep [0, 1, 6] (by simp only [proj, lk, reduceIte, Nat.reduceEqDiff]; rfl) ?_)); clear hK3
  refine V_sr T.mix (by kernel_rfl) (fun K4 hK4 => ?_)
  refine S_call T.hb10 rfl ?_
  generalize hMe : h1.size = M
  refine FC.mono (mnew_spec h1) ?_
  rintro v' h2 ⟨rfl, m2, hE2⟩
  rw [hMe] at m2
  rw [hMe]
  have hXl := r1.lt
  have hs0 := hE0.1
  have hs1 := hE1.1
  have w0 : WJ h.size h2 X M (fun b => b = M) ⟨[], 0, 0⟩ ⟨[], 0, 0⟩ 0 := ⟨r1.ext hE2 (fun f => f), m2, by omega, ⟨by omega, fun b e => by omega⟩, by omega⟩
  have hEs : Ext (fun c => h.size ≤ c) h h2 := ((hE0.trans hE1).trans hE2).mono fun _ f => f.elim
  refine S_as rfl ?_
  refine S_nil (hK4 _ _ (V_keep [0, 1, 6, 7] (by simp only [proj, lk, reduceIte, Nat.reduceEqDiff]; rfl) ?_)); clear hK4
  refine V_sr T.mix (by kernel_rfl) (fun K5 hK5 => ?_)
  refine S_as rfl ?_
  refine S_nil (hK5 _ _ (V_keep [0, 1, 6, 7, 8] (by simp only [proj, lk, reduceIte, Nat.reduceEqDiff]; rfl) ?_)); clear hK5
  refine V_seqJ (fun l h' => ∃ (h3 : Heap), (WJ h.size h3 X M (fun b => b = M) ⟨[], 0, 0⟩ ⟨[], 0, 0⟩ 0) ∧ (Ext (fun c => h.size ≤ c) h h3) ∧ l = [(0, .slice sa n cap), (1, .bool (decide (q = true))), (6, .pointer (some ⟨X, 0, none⟩)), (7, .pointer (some ⟨M, 0, none⟩)), (8, .int .i64 0)] ∧ h3 = h') ?_ ?_
  · skip
    refine V_sr T.mix (by kernel_rfl) (fun K7 hK7 => ?_)
    refine S_mv rfl ?_
    refine S_not rfl ?_
    refine S_nil (hK7 _ _ (V_keep [0, 1, 6, 7, 8, 19] (by simp only [proj, lk, reduceIte, Nat.reduceEqDiff]; rfl) ?_)); clear hK7
    refine V_condp rfl (fun c286 => ?_) (fun c286 => ?_)
    · skip
      refine V_sr T.mix (by kernel_rfl) (fun K8 hK8 => ?_)
      refine S_mv rfl ?_
      refine S_mv rfl ?_
      refine S_mv rfl ?_
      refine S_call T.hb11 rfl ?_
      refine FC.mono (seen_spec h.size h2 X M _ _ _ w0) ?_
      rintro v' h' ⟨rfl, rfl⟩
      refine S_notb rfl ?_
      refine S_nil (hK8 _ _ (V_keep [0, 1, 6, 7, 8, 24] (by simp only [proj, lk, reduceIte, Nat.reduceEqDiff]; rfl) ?_)); clear hK8
      refine V_condb rfl (fun c287 => ?_) (fun c287 => ?_)
      · skip
        cases c287
      · skip
        refine V_skipk [0, 1, 6, 7, 8] (by simp only [proj, lk, reduceIte, Nat.reduceEqDiff]; rfl) ?_
        exact ⟨h2, w0, hEs, rfl, rfl⟩
    · skip
      refine V_skipk [0, 1, 6, 7, 8] (by simp only [proj, lk, reduceIte, Nat.reduceEqDiff]; rfl) ?_
      exact ⟨h2, w0, hEs, rfl, rfl⟩
  rintro l h' ⟨h3, w3, hE3s, rfl, rfl⟩
  refine V_seq (fun K9 hK9 => ?_)
  refine V_sr T.mix (by kernel_rfl) (fun K10 hK10 => ?_)
  refine S_as rfl ?_
  refine S_nil (hK10 _ _ (V_keep [0, 1, 6, 7, 8, 9] (by simp only [proj, lk, reduceIte, Nat.reduceEqDiff]; rfl) ?_)); clear hK10
  refine V_block ?_
  refine V_loop (fun m l h' => ∃ (i : Nat) (hk : Heap) (Fk : Nat → Prop) (sk : TS) (pk : Nat), (i ≤ n) ∧ (i ≤ 4398046511104) ∧ (WJ h.size hk X M Fk sk sk pk) ∧ (Ext (fun c => h.size ≤ c) h hk) ∧ (pk ≤ 12 * i) ∧ m = n - i ∧ l = [(0, .slice sa n cap), (1, .bool (decide (q = true))), (6, .pointer (some ⟨X, 0, none⟩)), (7, .pointer (some ⟨M, 0, none⟩)), (8, .int .i64 (pk : Int)), (9, .int .i64 i)] ∧ hk = h') _ ⟨0, h3, _, ⟨[], 0, 0⟩, 0, by omega, by omega, w3, hE3s, by omega, rfl, rfl, rfl⟩ ?_
  rintro m l h' ⟨i, hk, Fk, sk, pk, hi, hi2, w, hE, hpk, rfl, rfl, rfl⟩ K11 hK11
  have hsk := w.hb
  have hlk := TI.len w.m.ok
  have w9 := w
  refine V_seq (fun K12 hK12 => ?_)
  refine V_sr T.mix (by kernel_rfl) (fun K13 hK13 => ?_)
  refine S_cut (K' := fun l h' => ∃ b : Bool, (b = true ↔ (i < n ∧ i < 4398046511104)) ∧ l = [(0, .slice sa n cap), (1, .bool (decide (q = true))), (6, .pointer (some ⟨X, 0, none⟩)), (7, .pointer (some ⟨M, 0, none⟩)), (8, .int .i64 (pk : Int)), (9, .int .i64 i), (32, .bool b)] ∧ hk = h') ?_ ?_
  · skip
    refine S_mv rfl ?_
    refine S_mv rfl ?_
    refine S_lenl T.el22 rfl ?_
    refine S_bin rfl rfl rfl ?_
    refine S_mv rfl ?_
    refine S_dec (fun g291 => ?_) (fun g291 => ?_)
    · skip
      refine S_gt rfl ?_
      refine S_mv rfl ?_
      refine S_gt rfl ?_
      refine S_bin rfl rfl rfl ?_
      refine S_pt rfl rfl ?_
      exact S_nilk [0, 1, 6, 7, 8, 9, 32] (by simp only [proj, lk, reduceIte, Nat.reduceEqDiff]; rfl) ⟨_, (by first | (simp [*]; done) | (simp; omega)), rfl, rfl⟩
    · skip
      refine S_gf rfl ?_
      refine S_gf rfl ?_
      refine S_pf rfl rfl ?_
      exact S_nilk [0, 1, 6, 7, 8, 9, 32] (by simp only [proj, lk, reduceIte, Nat.reduceEqDiff]; rfl) ⟨_, (by first | (simp [*]; done) | (simp; omega)), rfl, rfl⟩
  rintro l h' ⟨b, hb291, rfl, rfl⟩
  refine hK13 _ _ ?_; clear hK13
  refine V_condb rfl (fun c291 => ?_) (fun c291 => ?_)
  · replace c291 := hb291.1 c291
    refine V_skipk [0, 1, 6, 7, 8, 9] (by simp only [proj, lk, reduceIte, Nat.reduceEqDiff]; rfl) ?_
    refine hK12 _ _ ?_; clear hK12
    refine V_seq (fun K15 hK15 => ?_)
    refine V_block ?_
    refine V_sr T.mix (by kernel_rfl) (fun K16 hK16 => ?_)
    refine S_mv rfl ?_
    refine S_mv rfl ?_
    obtain ⟨sb, so, rfl, hlt, k, oa, ob, oc, os, ot, hc⟩ := (hs.ext (Nat.le_refl _) hE) i (by exact c291.1)
    refine S_ix T.el22 rfl rfl (by omega) (by omega) ?_
    refine S_ldn T.ag36 rfl (by simpa using hc) ?_
    refine S_allocA T.z36 ?_
    generalize hh : Array.push hk _ = h4
    have hO : B h4 hk.size #[.int .i64 0, .int .i64 0, .int .i64 0, .int .i64 0, .string ⟨#[]⟩, .string ⟨#[]⟩] 36 := by rw [← hh]; exact B.new _ _ _
    have hEh4 : Ext (fun _ => False) hk h4 := by rw [← hh]; exact Ext.push _ _ _
    clear hh
    have hk4 := hO.lt
    have no := w.nin (Nat.le_refl _)
    have hyh4 := hEh4.1
    replace hE := hE.trans (hEh4.mono fun _ f => f.elim)
    replace w := w.ext hEh4 (fun _ f => f.elim)
    have hok : ∀ j, j < 6 → okPut h4 ⟨hk.size, j, none⟩ = true := fun j hj => hO.ok (by simpa using hj)
    refine S_stl T.sz36 rfl rfl rfl rfl (fun j hj => by simp (disch := omega) only [hok]) ?_
    generalize hh : putsH _ _ _ _ = h5
    replace hO : B h5 hk.size #[.int .i64 k, .int .i64 oa, .int .i64 ob, .int .i64 oc, .string os, .string ot] 36 := by rw [← hh]; exact puts_all hO (cs' := #[.int .i64 k, .int .i64 oa, .int .i64 ob, .int .i64 oc, .string os, .string ot]) rfl
    have hEh5 : Ext (fun x => x = hk.size) h4 h5 := by rw [← hh]; exact Ext.puts (S := fun x => x = hk.size) rfl _ _ _
    clear hh
    have hzh5 := w.hb
    have hyh5 := hEh5.1
    replace hE := hE.trans (hEh5.mono fun c (e : c = _) => by omega)
    replace w := w.ext hEh5 (fun c e => by subst e; exact no)
    have o0 : cellH h5 ⟨hk.size, 0, none⟩ = some (.int .i64 k) := hO.cell 0
    have o1 := o0
    have o2 := o0
    refine S_nil (hK16 _ _ (V_keep [0, 1, 6, 7, 8, 9, 10] (by simp only [proj, lk, reduceIte, Nat.reduceEqDiff]; rfl) ?_)); clear hK16
    refine V_sr T.mix (by kernel_rfl) (fun K17 hK17 => ?_)
    refine S_mv rfl ?_
    refine S_call T.hb12 rfl ?_
    refine FC.mono (mmark_spec h5 M Fk sk w.m) ?_
    rintro v' h6 ⟨rfl, F2, m6, hX6⟩
    have hEx := WEx.model (X := X) hX6
    replace hE := hE.trans (WEx.low w hEx)
    have hO6 := hO.ext hX6.1 no.2
    clear hO
    have hO := hO6
    have no6 : ¬ F2 hk.size := fun e => by rcases hX6.2 _ e with y | y; (exact no.2 y); (omega)
    have hy6 := hX6.1.1
    replace w := w.model m6 hX6
    refine S_nil (hK17 _ _ (V_keep [0, 1, 6, 7, 8, 9, 10] (by simp only [proj, lk, reduceIte, Nat.reduceEqDiff]; rfl) ?_)); clear hK17
    refine V_sr T.mix (by kernel_rfl) (fun K18 hK18 => ?_)
    refine S_mv rfl ?_
    refine S_call T.hb13 rfl ?_
    refine FC.mono (mlen_spec h6 M F2 sk w.m) ?_
    rintro v' h' ⟨rfl, rfl⟩
    refine S_as rfl ?_
    refine S_nil (hK18 _ _ (V_keep [0, 1, 6, 7, 8, 9, 10, 11] (by simp only [proj, lk, reduceIte, Nat.reduceEqDiff]; rfl) ?_)); clear hK18
    refine V_sr T.mix (by kernel_rfl) (fun K19 hK19 => ?_)
    refine S_mv rfl ?_
    refine S_call T.hb14 rfl ?_
    refine FC.mono (mclone_spec h6 M F2 sk w.m) ?_
    rintro v' h7 ⟨W, G, rfl, ws, hEh7, hGf⟩
    have hwn : ∀ b, G b → b ≠ X ∧ ¬ F2 b := fun b e => w.nin (hGf b e)
    have hyh7 := hEh7.1
    replace hE := hE.trans (hEh7.mono fun _ f => f.elim)
    replace w := w.ext hEh7 (fun _ f => f.elim)
    replace hO := hO.ext hEh7 (fun f => f)
    refine S_as rfl ?_
    refine S_nil (hK19 _ _ (V_keep [0, 1, 6, 7, 8, 9, 10, 11, 12] (by simp only [proj, lk, reduceIte, Nat.reduceEqDiff]; rfl) ?_)); clear hK19
    refine V_sr T.mix (by kernel_rfl) (fun K20 hK20 => ?_)
    refine S_mv rfl ?_
    refine S_ldn T.ag36 rfl (hO.all rfl) ?_
    refine S_call T.hb15 rfl ?_
    refine FC.mono (due_spec h7 W G sk ws k oa ob oc os ot) ?_
    rintro v' h8 ⟨rfl, hEh8⟩
    have hyh8 := hEh8.1
    replace hE := hE.trans (hEh8.mono fun _ f => f.elim)
    replace w := w.ext hEh8 (fun _ f => f.elim)
    replace hO := hO.ext hEh8 (fun f => f)
    replace ws := ws.ext hEh8 (fun _ _ f => f)
    refine S_as rfl ?_
    refine S_nil (hK20 _ _ (V_keep [0, 1, 6, 7, 8, 9, 10, 11, 12, 13] (by simp only [proj, lk, reduceIte, Nat.reduceEqDiff]; rfl) ?_)); clear hK20
    refine V_seq (fun K21 hK21 => ?_)
    refine V_sr T.mix (by kernel_rfl) (fun K22 hK22 => ?_)
    refine S_mv rfl ?_
    refine S_mv rfl ?_
    refine S_ldn T.ag36 rfl (hO.all rfl) ?_
    refine S_mv rfl ?_
    refine S_mv rfl ?_
    refine S_call T.hb16 rfl ?_
    refine FC.mono (play_spec h.size h8 X M F2 sk pk w k oa ob oc os ot _ rfl (by omega)) ?_
    rintro v' h9 ⟨rfl, F3, w2, hW⟩
    replace hE := hE.trans (WEx.low w hW)
    replace hO := hO.ext hW.1 (fun e => by rcases e with e | e; (exact no.1 e); (exact no6 e))
    replace ws := ws.ext hW.1 (fun b e f => by rcases f with f | f; (exact (hwn b e).1 f); (exact (hwn b e).2 f))
    clear o0 o1 o2
    have o0 : cellH h9 ⟨hk.size, 0, none⟩ = some (.int .i64 k) := hO.cell 0
    have o1 := o0
    have o2 := o0
    have okk := w.m.ok
    have hstl := st_len sk okk k oa ob
    replace w := w2
    generalize hs2 : stepS sk k oa ob = s2 at w2 w hstl
    generalize hp2 : popF sk k oa ob pk = p2 at w2 w
    refine S_notb rfl ?_
    refine S_nil (hK22 _ _ (V_keep [0, 1, 6, 7, 8, 9, 10, 11, 12, 13, 54] (by simp only [proj, lk, reduceIte, Nat.reduceEqDiff]; rfl) ?_)); clear hK22
    refine V_condb rfl (fun c297 => ?_) (fun c297 => ?_)
    · skip
      cases c297
    · skip
      refine V_skipk [0, 1, 6, 7, 8, 9, 10, 11, 12, 13] (by simp only [proj, lk, reduceIte, Nat.reduceEqDiff]; rfl) ?_
      refine hK21 _ _ ?_; clear hK21
      refine V_seq (fun K23 hK23 => ?_)
      refine V_sr T.mix (by kernel_rfl) (fun K24 hK24 => ?_)
      refine S_mv rfl ?_
      refine S_mv rfl ?_
      refine S_ldn T.ag36 rfl (hO.all rfl) ?_
      refine S_mv rfl ?_
      refine S_call T.hb17 rfl ?_
      refine FC.mono (does_spec h9 W G sk ws M F3 s2 w.m k oa ob oc os ot _ hs2.symm rfl) ?_
      rintro v' h10 ⟨rfl, hEh10⟩
      have hyh10 := hEh10.1
      replace hE := hE.trans (hEh10.mono fun _ f => f.elim)
      replace w := w.ext hEh10 (fun _ f => f.elim)
      replace hO := hO.ext hEh10 (fun f => f)
      clear o0 o1 o2
      have o0 : cellH h10 ⟨hk.size, 0, none⟩ = some (.int .i64 k) := hO.cell 0
      have o1 := o0
      have o2 := o0
      refine S_notb rfl ?_
      refine S_nil (hK24 _ _ (V_keep [0, 1, 6, 7, 8, 9, 10, 11, 62] (by simp only [proj, lk, reduceIte, Nat.reduceEqDiff]; rfl) ?_)); clear hK24
      refine V_condb rfl (fun c300 => ?_) (fun c300 => ?_)
      · skip
        cases c300
      · skip
        refine V_skipk [0, 1, 6, 7, 8, 9, 10, 11] (by simp only [proj, lk, reduceIte, Nat.reduceEqDiff]; rfl) ?_
        refine hK23 _ _ ?_; clear hK23
        refine V_seqJ (fun l h' => ∃ (pv : Int), (pv = (p2 : Int)) ∧ l = [(0, .slice (some ⟨sb, so, none⟩) n cap), (1, .bool (decide (q = true))), (6, .pointer (some ⟨X, 0, none⟩)), (7, .pointer (some ⟨M, 0, none⟩)), (8, .int .i64 pv), (9, .int .i64 i)] ∧ h10 = h') ?_ ?_
        · skip
          refine V_sr T.mix (by kernel_rfl) (fun K26 hK26 => ?_)
          first | refine S_fa0 T.f36_0 rfl ?_ | refine S_fa T.f36_0 rfl ?_
          refine S_ldK T.ag3 rfl (fun K' hK' => ?_)
          simp (disch := omega) only [o0, o1, o2, oP_some, Nat.add_zero]
          refine hK' _ ?_; clear hK' K'
          refine S_bin rfl rfl rfl ?_
          refine S_mv rfl ?_
          refine S_dec (fun g303 => ?_) (fun g303 => ?_)
          · skip
            refine S_gf rfl ?_
            refine S_gf rfl ?_
            refine S_gf rfl ?_
            refine S_pt rfl rfl ?_
            refine S_nil (hK26 _ _ (V_keep [0, 1, 6, 7, 8, 9, 11, 72] (by simp only [proj, lk, reduceIte, Nat.reduceEqDiff]; rfl) ?_)); clear hK26
            refine V_condt rfl ?_
            refine V_sr T.mix (by kernel_rfl) (fun K27 hK27 => ?_)
            refine S_mv rfl ?_
            refine S_call T.hb13 rfl ?_
            refine FC.mono (mlen_spec h10 M F3 s2 w.m) ?_
            rintro v' h' ⟨rfl, rfl⟩
            refine S_as rfl ?_
            refine S_nil (hK27 _ _ (V_keep [0, 1, 6, 7, 8, 9, 11, 14] (by simp only [proj, lk, reduceIte, Nat.reduceEqDiff]; rfl) ?_)); clear hK27
            refine V_reg T.mix (by kernel_rfl) ?_
            refine S_mv rfl ?_
            refine S_mv rfl ?_
            first | refine S_add rfl rfl (by omega) (by omega) ?_ | refine S_bin rfl rfl rfl ?_
            refine S_mv rfl ?_
            first | refine S_sub rfl rfl (by omega) (by omega) ?_ | refine S_bin rfl rfl rfl ?_
            refine S_as rfl ?_
            refine S_nilk [0, 1, 6, 7, 8, 9] (by simp only [proj, lk, reduceIte, Nat.reduceEqDiff]; rfl) ?_
            exact ⟨_, by have h9 := hstl (by omega); rw [← hp2]; unfold popF; rw [if_pos (by omega), hs2]; omega, rfl, rfl⟩
          · skip
            refine S_gt rfl ?_
            first | refine S_fa0 T.f36_0 rfl ?_ | refine S_fa T.f36_0 rfl ?_
            refine S_gt rfl ?_
            refine S_ldK T.ag3 rfl (fun K' hK' => ?_)
            simp (disch := omega) only [o0, o1, o2, oP_some, Nat.add_zero]
            refine hK' _ ?_; clear hK' K'
            refine S_gt rfl ?_
            refine S_bin rfl rfl rfl ?_
            refine S_pf rfl rfl ?_
            refine S_nil (hK26 _ _ (V_keep [0, 1, 6, 7, 8, 9, 11, 72] (by simp only [proj, lk, reduceIte, Nat.reduceEqDiff]; rfl) ?_)); clear hK26
            refine V_condp rfl (fun c303 => ?_) (fun c303 => ?_)
            · skip
              refine V_sr T.mix (by kernel_rfl) (fun K28 hK28 => ?_)
              refine S_mv rfl ?_
              refine S_call T.hb13 rfl ?_
              refine FC.mono (mlen_spec h10 M F3 s2 w.m) ?_
              rintro v' h' ⟨rfl, rfl⟩
              refine S_as rfl ?_
              refine S_nil (hK28 _ _ (V_keep [0, 1, 6, 7, 8, 9, 11, 14] (by simp only [proj, lk, reduceIte, Nat.reduceEqDiff]; rfl) ?_)); clear hK28
              refine V_reg T.mix (by kernel_rfl) ?_
              refine S_mv rfl ?_
              refine S_mv rfl ?_
              first | refine S_add rfl rfl (by omega) (by omega) ?_ | refine S_bin rfl rfl rfl ?_
              refine S_mv rfl ?_
              first | refine S_sub rfl rfl (by omega) (by omega) ?_ | refine S_bin rfl rfl rfl ?_
              refine S_as rfl ?_
              refine S_nilk [0, 1, 6, 7, 8, 9] (by simp only [proj, lk, reduceIte, Nat.reduceEqDiff]; rfl) ?_
              exact ⟨_, by have h9 := hstl (by omega); rw [← hp2]; unfold popF; rw [if_pos (by omega), hs2]; omega, rfl, rfl⟩
            · skip
              refine V_skipk [0, 1, 6, 7, 8, 9] (by simp only [proj, lk, reduceIte, Nat.reduceEqDiff]; rfl) ?_
              exact ⟨_, by rw [← hp2, popF_oth (by omega)], rfl, rfl⟩
        rintro l h' ⟨pv, hpv, rfl, rfl⟩
        subst hpv
        refine V_seq (fun K29 hK29 => ?_)
        refine V_sr T.mix (by kernel_rfl) (fun K30 hK30 => ?_)
        refine S_mv rfl ?_
        refine S_call T.hb18 rfl ?_
        refine FC.mono (keeps_spec h10 M F3 s2 w.m) ?_
        rintro v' h' ⟨rfl, rfl⟩
        refine S_notb rfl ?_
        refine S_nil (hK30 _ _ (V_keep [0, 1, 6, 7, 8, 9, 82] (by simp only [proj, lk, reduceIte, Nat.reduceEqDiff]; rfl) ?_)); clear hK30
        refine V_condb rfl (fun c307 => ?_) (fun c307 => ?_)
        · skip
          cases c307
        · skip
          refine V_skipk [0, 1, 6, 7, 8, 9] (by simp only [proj, lk, reduceIte, Nat.reduceEqDiff]; rfl) ?_
          refine hK29 _ _ ?_; clear hK29
          refine V_sr T.mix (by kernel_rfl) (fun K31 hK31 => ?_)
          refine S_mv rfl ?_
          refine S_not rfl ?_
          refine S_nil (hK31 _ _ (V_keep [0, 1, 6, 7, 8, 9, 86] (by simp only [proj, lk, reduceIte, Nat.reduceEqDiff]; rfl) ?_)); clear hK31
          refine V_condp rfl (fun c310 => ?_) (fun c310 => ?_)
          · skip
            refine V_sr T.mix (by kernel_rfl) (fun K32 hK32 => ?_)
            refine S_mv rfl ?_
            refine S_mv rfl ?_
            refine S_mv rfl ?_
            refine S_call T.hb11 rfl ?_
            refine FC.mono (seen_spec h.size h10 X M F3 s2 p2 w) ?_
            rintro v' h' ⟨rfl, rfl⟩
            refine S_notb rfl ?_
            refine S_nil (hK32 _ _ (V_keep [0, 1, 6, 7, 8, 9, 91] (by simp only [proj, lk, reduceIte, Nat.reduceEqDiff]; rfl) ?_)); clear hK32
            refine V_condb rfl (fun c311 => ?_) (fun c311 => ?_)
            · skip
              cases c311
            · skip
              refine V_skipk [0, 1, 6, 7, 8, 9] (by simp only [proj, lk, reduceIte, Nat.reduceEqDiff]; rfl) ?_
              refine hK15 _ _ ?_; clear hK15
              refine V_reg T.mix (by kernel_rfl) ?_
              refine S_mv rfl ?_
              first | refine S_add rfl rfl (by omega) (by omega) ?_ | refine S_bin rfl rfl rfl ?_
              refine S_as rfl ?_
              refine S_nilk [0, 1, 6, 7, 8, 9] (by simp only [proj, lk, reduceIte, Nat.reduceEqDiff]; rfl) ?_
              exact hK11 _ _ ⟨_, by omega, i + 1, _, F3, s2, p2, by omega, by omega, w, hE, by rw [← hp2]; unfold popF; split <;> omega, rfl, rfl, rfl⟩
          · skip
            refine V_skipk [0, 1, 6, 7, 8, 9] (by simp only [proj, lk, reduceIte, Nat.reduceEqDiff]; rfl) ?_
            refine hK15 _ _ ?_; clear hK15
            refine V_reg T.mix (by kernel_rfl) ?_
            refine S_mv rfl ?_
            first | refine S_add rfl rfl (by omega) (by omega) ?_ | refine S_bin rfl rfl rfl ?_
            refine S_as rfl ?_
            refine S_nilk [0, 1, 6, 7, 8, 9] (by simp only [proj, lk, reduceIte, Nat.reduceEqDiff]; rfl) ?_
            exact hK11 _ _ ⟨_, by omega, i + 1, _, F3, s2, p2, by omega, by omega, w, hE, by rw [← hp2]; unfold popF; split <;> omega, rfl, rfl, rfl⟩
  · replace c291 : ¬ _ := fun hp => Bool.false_ne_true (c291.symm.trans (hb291.2 hp))
    refine V_exitk [0] rfl (by simp only [proj, lk, reduceIte, Nat.reduceEqDiff]; rfl) ?_
    refine hK9 _ _ ?_; clear hK9
    refine V_seq (fun K33 hK33 => ?_)
    refine V_sr T.mix (by kernel_rfl) (fun K34 hK34 => ?_)
    refine S_mv rfl ?_
    refine S_lenl T.el22 rfl ?_
    refine S_bin rfl rfl rfl ?_
    refine S_nil (hK34 _ _ (V_keep [0, 96] (by simp only [proj, lk, reduceIte, Nat.reduceEqDiff]; rfl) ?_)); clear hK34
    refine V_condp rfl (fun c316 => ?_) (fun c316 => ?_)
    · skip
      refine V_sr T.mix (by kernel_rfl) (fun K35 hK35 => ?_)
      refine S_mv rfl ?_
      refine S_lenl T.el22 rfl ?_
      refine S_as rfl ?_
      refine S_as rfl ?_
      refine S_nil (hK35 _ _ (V_keep [4, 5] (by simp only [proj, lk, reduceIte, Nat.reduceEqDiff]; rfl) ?_)); clear hK35
      refine V_ret ?_
      refine hR _ _ (ret2 rfl rfl rfl ?_)
      exact ⟨⟨_, rfl⟩, hE⟩
    · skip
      refine V_skipk [] (by simp only [proj, lk, reduceIte, Nat.reduceEqDiff]; rfl) ?_
      refine hK33 _ _ ?_; clear hK33
      refine V_sr T.mix (by kernel_rfl) (fun K36 hK36 => ?_)
      refine S_as rfl ?_
      refine S_as rfl ?_
      refine S_nil (hK36 _ _ (V_keep [4, 5] (by simp only [proj, lk, reduceIte, Nat.reduceEqDiff]; rfl) ?_)); clear hK36
      refine V_ret ?_
      refine hR _ _ (ret2 rfl rfl rfl ?_)
      exact ⟨⟨_, rfl⟩, hE⟩
set_option maxHeartbeats 400000 in
theorem rut_spec (h : Heap) (sa : Option Addr) (n cap : Nat) (hs : Scr h.size h sa n) (hn : n ≤ 9223372036854775807) :
    FC Try.prog 5 (#[.slice sa n cap] : Array Value) h fun v h' => v = .int .i64 (-1) ∧ Ext (fun b => h.size ≤ b) h h' := by
  refine FC_of [(0, .slice sa n cap)] Try.func5 rfl Try.ntmps5 (by simp) rfl (fun R hR => ?_)
  refine V_sr T.mix (by kernel_rfl) (fun K1 hK1 => ?_)
  refine S_as rfl ?_
  refine S_nil (hK1 _ _ (V_keep [0] (by simp only [proj, lk, reduceIte, Nat.reduceEqDiff]; rfl) ?_)); clear hK1
  refine V_sr T.mix (by kernel_rfl) (fun K2 hK2 => ?_)
  refine S_mv rfl ?_
  refine S_call T.hb7 rfl ?_
  refine FC.mono (walk_spec h sa n cap false hs hn) ?_
  rintro v h2 ⟨⟨j, rfl⟩, hE⟩
  refine S_mv rfl ?_
  refine S_ex rfl rfl ?_
  refine S_ex rfl rfl ?_
  refine S_as rfl ?_
  refine S_as rfl ?_
  refine S_nil (hK2 _ _ (V_keep [3] (by simp only [proj, lk, reduceIte, Nat.reduceEqDiff]; rfl) ?_)); clear hK2
  refine V_sr T.mix (by kernel_rfl) (fun K3 hK3 => ?_)
  refine S_mv rfl ?_
  refine S_as rfl ?_
  refine S_nil (hK3 _ _ (V_keep [2] (by simp only [proj, lk, reduceIte, Nat.reduceEqDiff]; rfl) ?_)); clear hK3
  refine V_ret ?_
  refine hR _ _ (ret1 rfl rfl ?_)
  exact ⟨rfl, hE⟩
set_option maxHeartbeats 400000 in
theorem rqut_spec (h : Heap) (sa : Option Addr) (n cap : Nat) (hs : Scr h.size h sa n) (hn : n ≤ 9223372036854775807) :
    FC Try.prog 6 (#[.slice sa n cap] : Array Value) h fun v h' => v = .int .i64 (-1) ∧ Ext (fun b => h.size ≤ b) h h' := by
  refine FC_of [(0, .slice sa n cap)] Try.func6 rfl Try.ntmps6 (by simp) rfl (fun R hR => ?_)
  refine V_sr T.mix (by kernel_rfl) (fun K1 hK1 => ?_)
  refine S_as rfl ?_
  refine S_nil (hK1 _ _ (V_keep [0] (by simp only [proj, lk, reduceIte, Nat.reduceEqDiff]; rfl) ?_)); clear hK1
  refine V_sr T.mix (by kernel_rfl) (fun K2 hK2 => ?_)
  refine S_mv rfl ?_
  refine S_call T.hb7 rfl ?_
  refine FC.mono (walk_spec h sa n cap true hs hn) ?_
  rintro v h2 ⟨⟨j, rfl⟩, hE⟩
  refine S_mv rfl ?_
  refine S_ex rfl rfl ?_
  refine S_ex rfl rfl ?_
  refine S_as rfl ?_
  refine S_as rfl ?_
  refine S_nil (hK2 _ _ (V_keep [3] (by simp only [proj, lk, reduceIte, Nat.reduceEqDiff]; rfl) ?_)); clear hK2
  refine V_sr T.mix (by kernel_rfl) (fun K3 hK3 => ?_)
  refine S_mv rfl ?_
  refine S_as rfl ?_
  refine S_nil (hK3 _ _ (V_keep [2] (by simp only [proj, lk, reduceIte, Nat.reduceEqDiff]; rfl) ?_)); clear hK3
  refine V_ret ?_
  refine hR _ _ (ret1 rfl rfl ?_)
  exact ⟨rfl, hE⟩
set_option maxHeartbeats 400000 in
theorem ref_spec (h : Heap) (sa : Option Addr) (n cap : Nat) (hs : Scr h.size h sa n) (hn : n ≤ 9223372036854775807) :
    FC Try.prog 3 (#[.slice sa n cap] : Array Value) h fun v h' => v = .bool true ∧ Ext (fun b => h.size ≤ b) h h' := by
  refine FC_of [(0, .slice sa n cap)] Try.func3 rfl Try.ntmps3 (by simp) rfl (fun R hR => ?_)
  refine V_sr T.mix (by kernel_rfl) (fun K1 hK1 => ?_)
  refine S_as rfl ?_
  refine S_nil (hK1 _ _ (V_keep [0] (by simp only [proj, lk, reduceIte, Nat.reduceEqDiff]; rfl) ?_)); clear hK1
  refine V_sr T.mix (by kernel_rfl) (fun K2 hK2 => ?_)
  refine S_mv rfl ?_
  refine S_call T.hb5 rfl ?_
  refine FC.mono (rut_spec h sa n cap hs hn) ?_
  rintro v h2 ⟨rfl, hE⟩
  refine S_bin rfl rfl rfl ?_
  refine S_as rfl ?_
  refine S_nil (hK2 _ _ (V_keep [2] (by simp only [proj, lk, reduceIte, Nat.reduceEqDiff]; rfl) ?_)); clear hK2
  refine V_ret ?_
  refine hR _ _ (ret1 rfl rfl ?_)
  exact ⟨rfl, hE⟩
set_option maxHeartbeats 400000 in
theorem refq_spec (h : Heap) (sa : Option Addr) (n cap : Nat) (hs : Scr h.size h sa n) (hn : n ≤ 9223372036854775807) :
    FC Try.prog 4 (#[.slice sa n cap] : Array Value) h fun v h' => v = .bool true ∧ Ext (fun b => h.size ≤ b) h h' := by
  refine FC_of [(0, .slice sa n cap)] Try.func4 rfl Try.ntmps4 (by simp) rfl (fun R hR => ?_)
  refine V_sr T.mix (by kernel_rfl) (fun K1 hK1 => ?_)
  refine S_as rfl ?_
  refine S_nil (hK1 _ _ (V_keep [0] (by simp only [proj, lk, reduceIte, Nat.reduceEqDiff]; rfl) ?_)); clear hK1
  refine V_sr T.mix (by kernel_rfl) (fun K2 hK2 => ?_)
  refine S_mv rfl ?_
  refine S_call T.hb6 rfl ?_
  refine FC.mono (rqut_spec h sa n cap hs hn) ?_
  rintro v h2 ⟨rfl, hE⟩
  refine S_bin rfl rfl rfl ?_
  refine S_as rfl ?_
  refine S_nil (hK2 _ _ (V_keep [2] (by simp only [proj, lk, reduceIte, Nat.reduceEqDiff]; rfl) ?_)); clear hK2
  refine V_ret ?_
  refine hR _ _ (ret1 rfl rfl ?_)
  exact ⟨rfl, hE⟩
end Go.Proofs.Qxb6500402a
