import Derived.Test.Qxb6500398aWj
set_option linter.unusedVariables false
set_option linter.unusedSimpArgs false
namespace Go.Proofs.Qxb6500398a
open Go.Eng Go.Cnf Go.Chk

theorem aq {h : Heap} {k : Nat} {x y z : Value} {t : TypeId} (hB : B h k #[x, y, z] t) : cellH h ⟨k, 0, none⟩ = some x ∧ cellH h ⟨k, 1, none⟩ = some y ∧ cellH h ⟨k, 2, none⟩ = some z ∧ ∀ j, j < 3 → okPut h ⟨k, j, none⟩ = true :=
  ⟨hB.cell 0, hB.cell 1, hB.cell 2, fun j hj => hB.ok (by simpa using hj)⟩
theorem wo_in {x : Nat} (h : x < 4096) : wo x 4095 = 0 := Nat.eq_of_testBit_eq fun i => by
  rw [wo_bit, show 4095 = 2 ^ 12 - 1 from rfl, Nat.testBit_two_pow_sub_one, Nat.zero_testBit]
  by_cases e : i < 12
  · simp [e]
  · have : x < 2 ^ i := Nat.lt_of_lt_of_le h (Nat.pow_le_pow_right (n := 2) (by omega) (show 12 ≤ i by omega))
    rw [Nat.testBit_lt_two_pow this]; rfl
theorem parse_len (s : ByteArray) : (parseF s).2.2.length ≤ 30000000 := by
  unfold parseF
  split
  · simp
  · unfold outF
    have := run_len (f := bx s) (s.size + 1) 0 p0
    simp only [p0, List.length_nil] at this
    repeat' split
    all_goals simp [p0]
    omega
theorem fit_ok {rows : List Rw} (h : fitF rows = 0) : (∀ r ∈ rows, ¬ r.1 = true) ∧ rows.length ≤ 40 := by
  unfold fitF at h
  split at h
  · omega
  · rename_i h1
    split at h
    · omega
    · exact ⟨fun r hr e => h1 ⟨r, hr, e⟩, by omega⟩
def FB (C X : Nat) (a : Option Addr) (k : Nat) : Prop := k = C ∨ k = X ∨ blkA a = some k
structure RS (h : Heap) (C X : Nat) (a : Option Addr) (cap : Nat) (sl : Nat → Option (List Int)) : Prop where
  ks : KS h C X sl
  pa : Par h X a cap p0
  ne : C ≠ X
  na : blkA a ≠ some C
theorem RS.ext {h h' : Heap} {C X : Nat} {a : Option Addr} {cap : Nat} {sl : Nat → Option (List Int)} {S : Nat → Prop} (r : RS h C X a cap sl) (he : Ext S h h') (hs : ∀ k, FB C X a k → ¬ S k) : RS h' C X a cap sl :=
  ⟨r.ks.ext he (hs C (.inl rfl)), r.pa.ext he (hs X (.inr (.inl rfl))) (fun k e => hs k (.inr (.inr e))), r.ne, r.na⟩
theorem RS.lt {h : Heap} {C X : Nat} {a : Option Addr} {cap : Nat} {sl : Nat → Option (List Int)} (r : RS h C X a cap sl) {k : Nat} (hk : FB C X a k) : k < h.size := by
  rcases hk with e | e | e
  · rw [e]; exact r.ks.lt
  · rw [e]; exact r.pa.s.lt
  · exact r.pa.ar.lt e
set_option maxHeartbeats 400000 in
theorem cnew_spec (h : Heap) (X : Nat) :
    FC Try.prog 9 (#[.pointer (some ⟨X, 0, none⟩)] : Array Value) h fun v h' => v = .pointer (some ⟨h.size, 0, none⟩) ∧ KS h' h.size X (fun _ => none) ∧ Ext (fun _ => False) h h' := by
  refine FC_of [(0, .pointer (some ⟨X, 0, none⟩))] Try.func9 rfl Try.ntmps9 (by simp) rfl (fun R hR => ?_)
  refine V_sr T.mix (by kernel_rfl) (fun K1 hK1 => ?_)
  refine S_as rfl ?_
  refine S_nil (hK1 _ _ (V_keep [0] (by simp only [proj, lk, reduceIte, Nat.reduceEqDiff]; rfl) ?_)); clear hK1
  refine V_sr T.mix (by kernel_rfl) (fun K2 hK2 => ?_)
  refine S_mv rfl ?_
  refine S_bld rfl (T.bld47_0 _) ?_
  refine S_boxA rfl ?_
  refine S_as rfl ?_
  refine S_nil (hK2 _ _ (V_keep [2] (by simp only [proj, lk, reduceIte, Nat.reduceEqDiff]; rfl) ?_)); clear hK2
  refine V_ret ?_
  refine hR _ _ (ret1 rfl rfl ?_)
  exact ⟨rfl, ⟨⟨fun _ => 0, fun _ => 0, 0, 0⟩, (B.new _ _ _).cong (by kernel_rfl), ⟨fun i hi _ => ⟨rfl, rfl, Nat.zero_testBit _⟩, fun i hi c e => (by cases e), (by decide), (by show 0 = ecnt (rowsS (fun _ => none) 64); decide +kernel)⟩⟩, Ext.push _ _ _⟩
set_option maxHeartbeats 400000 in
theorem clean_spec (h : Heap) (C X : Nat) (sl : Nat → Option (List Int)) (ks : KS h C X sl) :
    FC Try.prog 11 (#[.pointer (some ⟨C, 0, none⟩)] : Array Value) h fun rv h' => rv = .bool true ∧ h = h' := by
  obtain ⟨Q, hB, hS⟩ := ks
  have hlt := hS.lt
  refine FC_of [(0, .pointer (some ⟨C, 0, none⟩))] Try.func11 rfl Try.ntmps11 (by simp) rfl (fun R hR => ?_)
  refine V_sr T.mix (by kernel_rfl) (fun K1 hK1 => ?_)
  refine S_as rfl ?_
  refine S_nil (hK1 _ _ (V_keep [0] (by simp only [proj, lk, reduceIte, Nat.reduceEqDiff]; rfl) ?_)); clear hK1
  refine V_sr T.mix (by kernel_rfl) (fun K2 hK2 => ?_)
  refine S_as rfl ?_
  refine S_nil (hK2 _ _ (V_keep [0, 3] (by simp only [proj, lk, reduceIte, Nat.reduceEqDiff]; rfl) ?_)); clear hK2
  refine V_seq (fun K3 hK3 => ?_)
  refine V_sr T.mix (by kernel_rfl) (fun K4 hK4 => ?_)
  refine S_as rfl ?_
  refine S_nil (hK4 _ _ (V_keep [0, 3, 4] (by simp only [proj, lk, reduceIte, Nat.reduceEqDiff]; rfl) ?_)); clear hK4
  refine V_block ?_
  refine V_loop (fun m l h' => ∃ (s : Nat) (cn : Nat), (s ≤ 64) ∧ (cn = ecnt (rowsS sl s)) ∧ (cn ≤ s) ∧ m = 64 - s ∧ l = [(0, .pointer (some ⟨C, 0, none⟩)), (3, .int .i64 (cn : Int)), (4, .int .i64 (s : Int))] ∧ h = h') _ ⟨0, 0, by omega, by simp [rowsS, ecnt], by omega, rfl, rfl, rfl⟩ ?_
  rintro m l h' ⟨s, cn, hs, hcn, hcs, rfl, rfl, rfl⟩ K5 hK5
  refine V_seq (fun K6 hK6 => ?_)
  refine V_sr T.mix (by kernel_rfl) (fun K7 hK7 => ?_)
  refine S_mv rfl ?_
  refine S_bin rfl rfl rfl ?_
  refine S_nil (hK7 _ _ (V_keep [0, 3, 4, 8] (by simp only [proj, lk, reduceIte, Nat.reduceEqDiff]; rfl) ?_)); clear hK7
  refine V_condp rfl (fun c30 => ?_) (fun c30 => ?_)
  · skip
    have h2s := two64 (s := s) (by omega)
    have hb16 := hS.b16 (i := s) (by omega)
    refine V_skipk [0, 3, 4] (by simp only [proj, lk, reduceIte, Nat.reduceEqDiff]; rfl) ?_
    refine hK6 _ _ ?_; clear hK6
    refine V_seq (fun K8 hK8 => ?_)
    refine V_block ?_
    refine V_sr T.mix (by kernel_rfl) (fun K9 hK9 => ?_)
    refine S_mv rfl ?_
    refine S_mv rfl ?_
    refine S_nc rfl ?_
    first | refine S_fa0 T.f47_1 rfl ?_ | refine S_fa T.f47_1 rfl ?_
    first | refine S_ixan T.ar44 rfl rfl (by omega) ?_ | refine S_ixa1 T.ar44 rfl rfl (by omega) (by omega) ?_
    refine S_ldK T.ag43 rfl (fun K' hK' => ?_)
    simp (disch := omega) only [klP hB, klUsed hB, klEmp hB, klPos hB, klNeg hB, oP_some, Nat.add_zero]
    refine hK' _ ?_; clear hK' K'
    refine S_mv rfl ?_
    refine S_mv rfl ?_
    refine S_nc rfl ?_
    first | refine S_fa0 T.f47_2 rfl ?_ | refine S_fa T.f47_2 rfl ?_
    first | refine S_ixan T.ar44 rfl rfl (by omega) ?_ | refine S_ixa1 T.ar44 rfl rfl (by omega) (by omega) ?_
    refine S_ldK T.ag43 rfl (fun K' hK' => ?_)
    simp (disch := omega) only [klP hB, klUsed hB, klEmp hB, klPos hB, klNeg hB, oP_some, Nat.add_zero]
    refine hK' _ ?_; clear hK' K'
    refine S_as rfl ?_
    refine S_as rfl ?_
    refine S_nil (hK9 _ _ (V_keep [0, 3, 4, 5, 6] (by simp only [proj, lk, reduceIte, Nat.reduceEqDiff]; rfl) ?_)); clear hK9
    refine V_seq (fun K10 hK10 => ?_)
    refine V_srM #[0, 1, 2, 3, 4, 5, 6, 7] [0, 1, 2, 3, 4] 5 [6, 7] T.mix (by kernel_rfl) rfl ⟨rfl, rfl⟩ (fun K11 hK11 => ?_)
    refine S_mv rfl ?_
    refine S_nc rfl ?_
    first | refine S_fa0 T.f47_3 rfl ?_ | refine S_fa T.f47_3 rfl ?_
    refine S_ldK T.ag45 rfl (fun K' hK' => ?_)
    simp (disch := omega) only [klP hB, klUsed hB, klEmp hB, klPos hB, klNeg hB, oP_some, Nat.add_zero]
    refine hK' _ ?_; clear hK' K'
    refine S_mv rfl ?_
    refine S_nil ?_
    refine SM_call T.hb16 rfl ?_
    refine FC.mono (slotbit_spec h s (by omega)) ?_
    rintro v' h' ⟨rfl, rfl⟩
    first | refine ⟨Grows.refl _, ?_⟩ | refine ⟨Grows.of_ext (by assumption), ?_⟩
    first | refine S_uand rfl rfl rfl (by first | omega | (simp only [IntKind.bits]; omega)) (by first | omega | (simp only [IntKind.bits]; omega)) ?_ | refine S_bin rfl rfl rfl ?_
    refine S_bin rfl rfl rfl ?_
    refine S_nil (hK11 _ _ (V_keep [0, 3, 4, 5, 6, 30] (by simp only [proj, lk, reduceIte, Nat.reduceEqDiff]; rfl) ?_)); clear hK11
    refine V_condp rfl (fun c32 => ?_) (fun c32 => ?_)
    · skip
      have hfr := (hS.free (i := s) (by omega)).1 (by omega)
      have hno := hS.no s (by omega) hfr
      refine V_seq (fun K12 hK12 => ?_)
      refine V_sr T.mix (by kernel_rfl) (fun K13 hK13 => ?_)
      refine S_mv rfl ?_
      refine S_mv rfl ?_
      refine S_nor (Q.pos s) (Q.neg s) _ rfl rfl rfl rfl rfl (t16 hb16.1) (t16 hb16.2) ?_
      refine S_bin rfl rfl rfl ?_
      refine S_nil (hK13 _ _ (V_keep [0, 3, 4, 34] (by simp only [proj, lk, reduceIte, Nat.reduceEqDiff]; rfl) ?_)); clear hK13
      refine V_condp rfl (fun c33 => ?_) (fun c33 => ?_)
      · skip
        exact absurd (by rw [hno.1, hno.2.1]; rfl) c33
      · skip
        refine V_skipk [0, 3, 4] (by simp only [proj, lk, reduceIte, Nat.reduceEqDiff]; rfl) ?_
        refine hK12 _ _ ?_; clear hK12
        refine V_exitk [0, 3, 4] rfl (by simp only [proj, lk, reduceIte, Nat.reduceEqDiff]; rfl) ?_
        refine hK8 _ _ ?_; clear hK8
        refine V_reg T.mix (by kernel_rfl) ?_
        refine S_mv rfl ?_
        first | refine S_add rfl rfl (by omega) (by omega) ?_ | refine S_bin rfl rfl rfl ?_
        refine S_as rfl ?_
        refine S_nilk [0, 3, 4] (by simp only [proj, lk, reduceIte, Nat.reduceEqDiff]; rfl) ?_
        exact hK5 _ _ ⟨_, by omega, s + 1, cn, by omega, by rw [rowsS_succ, hfr]; simpa using hcn, by omega, rfl, rfl, rfl⟩
    · skip
      obtain ⟨c, hsc⟩ : ∃ c, sl s = some c := by
        cases e : sl s with
        | none => exact absurd (by rw [(hS.free (by omega)).2 e]; rfl) c32
        | some c => exact ⟨c, rfl⟩
      have hyc := hS.yes s (by omega) c hsc
      refine V_skipk [0, 3, 4, 5, 6] (by simp only [proj, lk, reduceIte, Nat.reduceEqDiff]; rfl) ?_
      refine hK10 _ _ ?_; clear hK10
      refine V_seq (fun K14 hK14 => ?_)
      refine V_sr T.mix (by kernel_rfl) (fun K15 hK15 => ?_)
      refine S_mv rfl ?_
      refine S_mv rfl ?_
      refine S_nand (Q.pos s) (Q.neg s) _ rfl rfl rfl rfl rfl (t16 hb16.1) (t16 hb16.2) ?_
      refine S_bin rfl rfl rfl ?_
      refine S_mv rfl ?_
      refine S_dec (fun g38 => ?_) (fun g38 => ?_)
      · skip
        exact absurd (by rw [hyc.2.1, hyc.2.2.1, hyc.1.disj]; rfl) g38
      · skip
        refine S_gt rfl ?_
        refine S_mv rfl ?_
        refine S_gt rfl ?_
        refine S_mv rfl ?_
        refine S_gt rfl ?_
        refine S_nor (Q.pos s) (Q.neg s) _ rfl rfl rfl rfl rfl (t16 hb16.1) (t16 hb16.2) ?_
        refine S_gt rfl ?_
        refine S_nandn (Q.pos s ||| Q.neg s) 4095 rfl rfl rfl rfl rfl (b16 (or12 hb16.1 hb16.2)) (by decide) ?_
        refine S_gt rfl ?_
        refine S_bin rfl rfl rfl ?_
        refine S_pf rfl rfl ?_
        refine S_nil (hK15 _ _ (V_keep [0, 3, 4, 5, 6, 45] (by simp only [proj, lk, reduceIte, Nat.reduceEqDiff]; rfl) ?_)); clear hK15
        refine V_condp rfl (fun c38 => ?_) (fun c38 => ?_)
        · skip
          exact absurd (by rw [wo_in (or12 hb16.1 hb16.2)]; rfl) c38
        · skip
          refine V_skipk [0, 3, 4, 5, 6] (by simp only [proj, lk, reduceIte, Nat.reduceEqDiff]; rfl) ?_
          refine hK14 _ _ ?_; clear hK14
          refine V_sr T.mix (by kernel_rfl) (fun K16 hK16 => ?_)
          refine S_mv rfl ?_
          refine S_mv rfl ?_
          refine S_nor (Q.pos s) (Q.neg s) _ rfl rfl rfl rfl rfl (t16 hb16.1) (t16 hb16.2) ?_
          refine S_bin rfl rfl rfl ?_
          refine S_nil (hK16 _ _ (V_keep [0, 3, 4, 49] (by simp only [proj, lk, reduceIte, Nat.reduceEqDiff]; rfl) ?_)); clear hK16
          refine V_condp rfl (fun c41 => ?_) (fun c41 => ?_)
          · skip
            have hce : c = [] := hyc.1.empty.1 (by rw [hyc.2.1, hyc.2.2.1] at c41; omega)
            refine V_reg T.mix (by kernel_rfl) ?_
            refine S_mv rfl ?_
            first | refine S_add rfl rfl (by omega) (by omega) ?_ | refine S_bin rfl rfl rfl ?_
            refine S_as rfl ?_
            refine S_nilk [0, 3, 4] (by simp only [proj, lk, reduceIte, Nat.reduceEqDiff]; rfl) ?_
            refine hK8 _ _ ?_; clear hK8
            refine V_reg T.mix (by kernel_rfl) ?_
            refine S_mv rfl ?_
            first | refine S_add rfl rfl (by omega) (by omega) ?_ | refine S_bin rfl rfl rfl ?_
            refine S_as rfl ?_
            refine S_nilk [0, 3, 4] (by simp only [proj, lk, reduceIte, Nat.reduceEqDiff]; rfl) ?_
            exact hK5 _ _ ⟨_, by omega, s + 1, cn + 1, by omega, by rw [rowsS_succ, hsc, Option.toList_some, ecnt_snoc, if_pos hce, hcn], by omega, rfl, rfl, rfl⟩
          · skip
            have hce : ¬ c = [] := fun e => c41 (by rw [hyc.2.1, hyc.2.2.1, hyc.1.empty.2 e]; rfl)
            refine V_skipk [0, 3, 4] (by simp only [proj, lk, reduceIte, Nat.reduceEqDiff]; rfl) ?_
            refine hK8 _ _ ?_; clear hK8
            refine V_reg T.mix (by kernel_rfl) ?_
            refine S_mv rfl ?_
            first | refine S_add rfl rfl (by omega) (by omega) ?_ | refine S_bin rfl rfl rfl ?_
            refine S_as rfl ?_
            refine S_nilk [0, 3, 4] (by simp only [proj, lk, reduceIte, Nat.reduceEqDiff]; rfl) ?_
            exact hK5 _ _ ⟨_, by omega, s + 1, cn, by omega, by rw [rowsS_succ, hsc, Option.toList_some, ecnt_snoc, if_neg hce, hcn]; rfl, by omega, rfl, rfl, rfl⟩
  · skip
    refine V_exitk [0, 3] rfl (by simp only [proj, lk, reduceIte, Nat.reduceEqDiff]; rfl) ?_
    refine hK3 _ _ ?_; clear hK3
    refine V_sr T.mix (by kernel_rfl) (fun K17 hK17 => ?_)
    refine S_mv rfl ?_
    refine S_mv rfl ?_
    refine S_nc rfl ?_
    first | refine S_fa0 T.f47_4 rfl ?_ | refine S_fa T.f47_4 rfl ?_
    refine S_ldK T.ag3 rfl (fun K' hK' => ?_)
    simp (disch := omega) only [klP hB, klUsed hB, klEmp hB, klPos hB, klNeg hB, oP_some, Nat.add_zero]
    refine hK' _ ?_; clear hK' K'
    refine S_bin rfl rfl rfl ?_
    refine S_mv rfl ?_
    refine S_dec (fun g45 => ?_) (fun g45 => ?_)
    · skip
      refine S_gt rfl ?_
      refine S_mv rfl ?_
      refine S_gt rfl ?_
      refine S_nc rfl ?_
      refine S_gt rfl ?_
      first | refine S_fa0 T.f47_0 rfl ?_ | refine S_fa T.f47_0 rfl ?_
      refine S_gt rfl ?_
      refine S_ldK T.ag27 rfl (fun K' hK' => ?_)
      simp (disch := omega) only [klP hB, klUsed hB, klEmp hB, klPos hB, klNeg hB, oP_some, Nat.add_zero]
      refine hK' _ ?_; clear hK' K'
      refine S_gt rfl ?_
      refine S_bin rfl rfl (by simp only [binV, T.kd27]; rfl) ?_
      refine S_pt rfl rfl ?_
      refine S_as rfl ?_
      refine S_nil (hK17 _ _ (V_keep [2] (by simp only [proj, lk, reduceIte, Nat.reduceEqDiff]; rfl) ?_)); clear hK17
      refine V_ret ?_
      refine hR _ _ (ret1 rfl rfl ?_)
      exact ⟨rfl, rfl⟩
    · skip
      exact absurd (by rw [hcn, hS.em, show s = 64 by omega]) g45
set_option maxHeartbeats 1600000 in
theorem check_spec (h : Heap) (C X : Nat) (a : Option Addr) (cap : Nat) (sl : Nat → Option (List Int)) (rs : RS h C X a cap sl) (s t : ByteArray) :
    FC Try.prog 21 (#[.pointer (some ⟨C, 0, none⟩), .string s, .string t] : Array Value) h fun rv h' => ∃ (a' : Option Addr) (c' : Nat) (sl' : Nat → Option (List Int)), rv = .agg #[.int .i64 ((chkF s t).1), .int .i64 ((chkF s t).2.1), .int .i64 ((chkF s t).2.2)] ∧ RS h' C X a' c' sl' ∧ Ext (FB C X a) h h' ∧ ∀ k, FB C X a' k → FB C X a k ∨ h.size ≤ k := by
  have hCl : C < h.size := rs.lt (.inl rfl)
  have hXl : X < h.size := rs.lt (.inr (.inl rfl))
  have hal : ∀ k, blkA a = some k → k < h.size := fun k e => rs.lt (.inr (.inr e))
  have hCX := rs.ne
  have hps := parse_len s
  have hpt := parse_len t
  refine FC_of [(0, .pointer (some ⟨C, 0, none⟩)), (1, .string s), (2, .string t)] Try.func21 rfl Try.ntmps21 (by simp) rfl (fun R hR => ?_)
  refine V_sr T.mix (by kernel_rfl) (fun K1 hK1 => ?_)
  refine S_allocA T.z55 ?_
  generalize hh : Array.push h _ = hA
  have hRA : B hA h.size #[.int .i64 0, .int .i64 0, .int .i64 0] 55 := by rw [← hh]; exact B.new _ _ _
  have hEhA : Ext (fun _ => False) h hA := by rw [← hh]; exact Ext.push _ _ _
  have hshA : hA.size = h.size + 1 := by rw [← hh]; simp
  clear hh
  have rsA := rs.ext hEhA (fun k hk f => f)
  obtain ⟨Q, hBA, hS⟩ := rsA.ks
  refine S_nil (hK1 _ _ (V_keep [0, 1, 2, 6] (by simp only [proj, lk, reduceIte, Nat.reduceEqDiff]; rfl) ?_)); clear hK1
  refine V_sr T.mix (by kernel_rfl) (fun K2 hK2 => ?_)
  refine S_mv rfl ?_
  refine S_nc rfl ?_
  first | refine S_fa0 T.f47_0 rfl ?_ | refine S_fa T.f47_0 rfl ?_
  refine S_ldK T.ag27 rfl (fun K' hK' => ?_)
  simp (disch := omega) only [klP hBA, oP_some, Nat.add_zero]
  refine hK' _ ?_; clear hK' K'
  refine S_mv rfl ?_
  refine S_call T.hb28 rfl ?_
  refine FC.mono (parse_spec hA X a cap rsA.pa s) ?_
  rintro v' h1 ⟨fl, c1a, c1, rfl, hfl, hfn, hfb, hP1, hx1⟩
  have hE1 := hx1.1
  have hs1 := hE1.1
  have hRl := hRA.lt
  refine S_allocA T.z77 ?_
  generalize hh : Array.push h1 _ = h2
  have hp2 : B h2 h1.size #[.int .i64 0, .int .i64 0, .slice none 0 0] 77 := by rw [← hh]; exact B.new _ _ _
  have hEh2 : Ext (fun _ => False) h1 h2 := by rw [← hh]; exact Ext.push _ _ _
  have hsh2 : h2.size = h1.size + 1 := by rw [← hh]; simp
  clear hh
  try clear a0 a1 a2 haok
  obtain ⟨a0, a1, a2, haok⟩ := aq (hp2)
  refine S_stl T.sz77 rfl rfl rfl rfl (fun j hj => by simp (disch := omega) only [haok]) ?_
  generalize hh : putsH _ _ _ _ = h3
  have hp3 : B h3 (h1.size) #[.int .i64 (parseF s).1, .int .i64 (parseF s).2.1, .slice fl (parseF s).2.2.length (parseF s).2.2.length] 77 := by rw [← hh]; exact B.puts_all (hp2) (cs' := #[.int .i64 (parseF s).1, .int .i64 (parseF s).2.1, .slice fl (parseF s).2.2.length (parseF s).2.2.length]) rfl
  have hEh3 : Ext (fun k => k = h1.size) h2 h3 := by rw [← hh]; exact Ext.puts (S := fun k => k = h1.size) rfl _ _ _
  clear hh
  try clear a0 a1 a2 haok
  obtain ⟨a0, a1, a2, haok⟩ := aq (hp3)
  have hR3 := ((hRA.ext hE1 (fun w => by rcases w with w | w; (omega); (have h9 := hal _ w; omega))).ext hEh2 (fun f => f)).ext hEh3 (fun w => by omega)
  have hkk := (rsA.ks.ext hE1 (fun w => by rcases w with w | w; (omega); (exact rs.na w)))
  have hna1 : blkA c1a ≠ some C := fun e => by rcases hx1.2 C e with w | w; (exact rs.na w); (omega)
  have hl1 : ∀ k, blkA c1a = some k → k < h1.size := fun k e => hP1.ar.lt e
  have rs1 : RS h1 C X c1a c1 sl := ⟨hkk, hP1, hCX, hna1⟩
  have rs3 := (rs1.ext hEh2 (fun k hk f => f)).ext hEh3 (fun k hk w => by have h9 := rs1.lt hk; omega)
  have hEa : Ext (FB C X a) h h3 := (((hEhA.mono (fun _ f => f.elim)).step hE1 (fun k hk w => .inr w)).step hEh2 (fun _ _ f => f.elim)).step hEh3 (fun k hk w => by omega)
  have hnw1 : ∀ k, FB C X c1a k → FB C X a k ∨ h.size ≤ k := fun k w => by
    rcases w with w | w | w
    · exact .inl (.inl w)
    · exact .inl (.inr (.inl w))
    · rcases hx1.2 k w with z | z
      · exact .inl (.inr (.inr z))
      · exact .inr (by omega)
  obtain ⟨Q3, hB3, hS3⟩ := rs3.ks
  have hfl3 := (hfl.ext hEh2 (fun _ _ f => f)).ext hEh3 (fun k e w => by have h9 := hfl.lt e; omega)
  refine S_nil (hK2 _ _ (V_keep [0, 2, 6, 7] (by simp only [proj, lk, reduceIte, Nat.reduceEqDiff]; rfl) ?_)); clear hK2
  refine V_seq (fun K3 hK3 => ?_)
  refine V_sr T.mix (by kernel_rfl) (fun K4 hK4 => ?_)
  first | refine S_fa0 T.f77_0 rfl ?_ | refine S_fa T.f77_0 rfl ?_
  refine S_ldK T.ag53 rfl (fun K' hK' => ?_)
  simp (disch := omega) only [a0, a1, a2, oP_some, Nat.add_zero]
  refine hK' _ ?_; clear hK' K'
  refine S_bin rfl rfl rfl ?_
  refine S_nil (hK4 _ _ (V_keep [0, 2, 6, 7, 18] (by simp only [proj, lk, reduceIte, Nat.reduceEqDiff]; rfl) ?_)); clear hK4
  refine V_condp rfl (fun c58 => ?_) (fun c58 => ?_)
  · skip
    refine V_sr T.mix (by kernel_rfl) (fun K5 hK5 => ?_)
    first | refine S_fa0 T.f77_0 rfl ?_ | refine S_fa T.f77_0 rfl ?_
    refine S_ldK T.ag53 rfl (fun K' hK' => ?_)
    simp (disch := omega) only [a0, a1, a2, oP_some, Nat.add_zero]
    refine hK' _ ?_; clear hK' K'
    first | refine S_fa0 T.f77_1 rfl ?_ | refine S_fa T.f77_1 rfl ?_
    refine S_ldK T.ag3 rfl (fun K' hK' => ?_)
    simp (disch := omega) only [a0, a1, a2, oP_some, Nat.add_zero]
    refine hK' _ ?_; clear hK' K'
    refine S_call T.hb29 rfl ?_
    refine FC.mono (refused_spec h3 ((parseF s).1 : Int) 0 ((parseF s).2.1 : Int)) ?_
    rintro v' h20 ⟨rfl, hEh20⟩
    have hRh20 := (hR3).ext hEh20 (fun f => f)
    have hRok : ∀ j, j < 3 → okPut h20 ⟨h.size, j, none⟩ = true := fun j hj => hRh20.ok (by simpa using hj)
    refine S_stl T.sz55 rfl rfl rfl rfl (fun j hj => by simp (disch := omega) only [hRok]) ?_
    generalize hh : putsH _ _ _ _ = h21
    have hR9 : B h21 (h.size) #[.int .i64 (((parseF s).1 : Int)), .int .i64 (0), .int .i64 (((parseF s).2.1 : Int))] 55 := by rw [← hh]; exact B.puts_all (hRh20) (cs' := #[.int .i64 (((parseF s).1 : Int)), .int .i64 (0), .int .i64 (((parseF s).2.1 : Int))]) rfl
    have hEh21 : Ext (fun k => k = h.size) h20 h21 := by rw [← hh]; exact Ext.puts (S := fun k => k = h.size) rfl _ _ _
    clear hh
    refine S_nil (hK5 _ _ (V_keep [6] (by simp only [proj, lk, reduceIte, Nat.reduceEqDiff]; rfl) ?_)); clear hK5
    refine V_ret ?_
    refine hR _ _ (retc1 rfl rfl T.ag55 hR9 (by rfl) ?_)
    refine ⟨c1a, c1, sl, ?_, (rs3.ext hEh20 (fun k hk f => f)).ext hEh21 (fun k hk w => by rcases hnw1 k hk with z | z; (have h9 := rs.lt z; omega); (rcases hk with q | q | q; (omega); (omega); (have h9 := hx1.2 k q; rcases h9 with h9 | h9; (have h8 := hal k h9; omega); (omega)))), (hEa.step hEh20 (fun _ _ f => f.elim)).step hEh21 (fun k hk w => by omega), hnw1⟩
    unfold chkF; rw [if_pos (by omega)]; rfl
  · skip
    have hz1 : (parseF s).1 = 0 := by omega
    have hok1 := rowsOf_ok (parseF_ok hz1).2
    refine V_skipk [0, 2, 6, 7] (by simp only [proj, lk, reduceIte, Nat.reduceEqDiff]; rfl) ?_
    refine hK3 _ _ ?_; clear hK3
    refine V_sr T.mix (by kernel_rfl) (fun K6 hK6 => ?_)
    first | refine S_fa0 T.f77_2 rfl ?_ | refine S_fa T.f77_2 rfl ?_
    refine S_ldK T.ag59 rfl (fun K' hK' => ?_)
    simp (disch := omega) only [a0, a1, a2, oP_some, Nat.add_zero]
    refine hK' _ ?_; clear hK' K'
    refine S_call T.hb30 rfl ?_
    refine FC.mono (fit_spec h3 fl _ (parseF s).2.2 hfl3 (by omega) (rowsOf (parseF s).2.2) hok1.1.symm hok1.2) ?_
    rintro v' h' ⟨rfl, rfl⟩
    refine S_as rfl ?_
    refine S_nil (hK6 _ _ (V_keep [0, 2, 6, 7, 8] (by simp only [proj, lk, reduceIte, Nat.reduceEqDiff]; rfl) ?_)); clear hK6
    refine V_seq (fun K7 hK7 => ?_)
    refine V_sr T.mix (by kernel_rfl) (fun K8 hK8 => ?_)
    refine S_mv rfl ?_
    refine S_bin rfl rfl rfl ?_
    refine S_nil (hK8 _ _ (V_keep [0, 2, 6, 7, 8, 28] (by simp only [proj, lk, reduceIte, Nat.reduceEqDiff]; rfl) ?_)); clear hK8
    refine V_condp rfl (fun c62 => ?_) (fun c62 => ?_)
    · skip
      refine V_sr T.mix (by kernel_rfl) (fun K9 hK9 => ?_)
      refine S_mv rfl ?_
      refine S_call T.hb29 rfl ?_
      refine FC.mono (refused_spec h3 (fitF (rowsOf (parseF s).2.2) : Nat) 0 0) ?_
      rintro v' h20 ⟨rfl, hEh20⟩
      have hRh20 := (hR3).ext hEh20 (fun f => f)
      have hRok : ∀ j, j < 3 → okPut h20 ⟨h.size, j, none⟩ = true := fun j hj => hRh20.ok (by simpa using hj)
      refine S_stl T.sz55 rfl rfl rfl rfl (fun j hj => by simp (disch := omega) only [hRok]) ?_
      generalize hh : putsH _ _ _ _ = h21
      have hR9 : B h21 (h.size) #[.int .i64 ((fitF (rowsOf (parseF s).2.2) : Nat)), .int .i64 (0), .int .i64 (0)] 55 := by rw [← hh]; exact B.puts_all (hRh20) (cs' := #[.int .i64 ((fitF (rowsOf (parseF s).2.2) : Nat)), .int .i64 (0), .int .i64 (0)]) rfl
      have hEh21 : Ext (fun k => k = h.size) h20 h21 := by rw [← hh]; exact Ext.puts (S := fun k => k = h.size) rfl _ _ _
      clear hh
      refine S_nil (hK9 _ _ (V_keep [6] (by simp only [proj, lk, reduceIte, Nat.reduceEqDiff]; rfl) ?_)); clear hK9
      refine V_ret ?_
      refine hR _ _ (retc1 rfl rfl T.ag55 hR9 (by rfl) ?_)
      refine ⟨c1a, c1, sl, ?_, (rs3.ext hEh20 (fun k hk f => f)).ext hEh21 (fun k hk w => by rcases hnw1 k hk with z | z; (have h9 := rs.lt z; omega); (rcases hk with q | q | q; (omega); (omega); (have h9 := hx1.2 k q; rcases h9 with h9 | h9; (have h8 := hal k h9; omega); (omega)))), (hEa.step hEh20 (fun _ _ f => f.elim)).step hEh21 (fun k hk w => by omega), hnw1⟩
      unfold chkF; rw [if_neg (by omega), if_pos (by omega)]; rfl
    · skip
      have hz2 : fitF (rowsOf (parseF s).2.2) = 0 := by omega
      have hfit := fit_ok hz2
      refine V_skipk [0, 2, 6, 7] (by simp only [proj, lk, reduceIte, Nat.reduceEqDiff]; rfl) ?_
      refine hK7 _ _ ?_; clear hK7
      refine V_sr T.mix (by kernel_rfl) (fun K10 hK10 => ?_)
      refine S_mv rfl ?_
      refine S_nc rfl ?_
      first | refine S_fa0 T.f47_0 rfl ?_ | refine S_fa T.f47_0 rfl ?_
      refine S_ldK T.ag27 rfl (fun K' hK' => ?_)
      simp (disch := omega) only [klP hB3, oP_some, Nat.add_zero]
      refine hK' _ ?_; clear hK' K'
      refine S_mv rfl ?_
      refine S_call T.hb28 rfl ?_
      refine FC.mono (parse_spec h3 X c1a c1 rs3.pa t) ?_
      rintro v' h5 ⟨gl, c5a, c5, rfl, hgl, hgn, hgb, hP5, hx5⟩
      have hE5 := hx5.1
      have hs5 := hE5.1
      refine S_allocA T.z77 ?_
      generalize hh : Array.push h5 _ = h6
      have hp6 : B h6 h5.size #[.int .i64 0, .int .i64 0, .slice none 0 0] 77 := by rw [← hh]; exact B.new _ _ _
      have hEh6 : Ext (fun _ => False) h5 h6 := by rw [← hh]; exact Ext.push _ _ _
      have hsh6 : h6.size = h5.size + 1 := by rw [← hh]; simp
      clear hh
      try clear a0 a1 a2 haok
      obtain ⟨a0, a1, a2, haok⟩ := aq (hp6)
      refine S_stl T.sz77 rfl rfl rfl rfl (fun j hj => by simp (disch := omega) only [haok]) ?_
      generalize hh : putsH _ _ _ _ = h7
      have hp7 : B h7 (h5.size) #[.int .i64 (parseF t).1, .int .i64 (parseF t).2.1, .slice gl (parseF t).2.2.length (parseF t).2.2.length] 77 := by rw [← hh]; exact B.puts_all (hp6) (cs' := #[.int .i64 (parseF t).1, .int .i64 (parseF t).2.1, .slice gl (parseF t).2.2.length (parseF t).2.2.length]) rfl
      have hEh7 : Ext (fun k => k = h5.size) h6 h7 := by rw [← hh]; exact Ext.puts (S := fun k => k = h5.size) rfl _ _ _
      clear hh
      try clear a0 a1 a2 haok
      obtain ⟨a0, a1, a2, haok⟩ := aq (hp7)
      have hl3 : h3.size = h1.size + 1 ∨ h1.size < h3.size := .inr (by have h8 := hEh3.1; have h9 := hEh2.1; omega)
      have hp7s := ((hp3.ext hE5 (fun w => by rcases w with w | w; (omega); (have h9 := hl1 _ w; omega))).ext hEh6 (fun f => f)).ext hEh7 (fun w => by omega)
      have hR7 := ((hR3.ext hE5 (fun w => by rcases w with w | w; (omega); (rcases hx1.2 _ w with z | z; (have h9 := hal _ z; omega); (omega)))).ext hEh6 (fun f => f)).ext hEh7 (fun w => by omega)
      have hkk5 := (rs3.ks.ext hE5 (fun w => by rcases w with w | w; (omega); (exact hna1 w)))
      have hna5 : blkA c5a ≠ some C := fun e => by rcases hx5.2 C e with w | w; (exact hna1 w); (omega)
      have rs5 : RS h5 C X c5a c5 sl := ⟨hkk5, hP5, hCX, hna5⟩
      have rs7 := (rs5.ext hEh6 (fun k hk f => f)).ext hEh7 (fun k hk w => by have h9 := rs5.lt hk; omega)
      have hEb : Ext (FB C X a) h h7 := ((hEa.step hE5 (fun k hk w => by rcases w with w | w; (exact .inr (.inl w)); (rcases hnw1 k (.inr (.inr w)) with z | z; (exact z); (omega)))).step hEh6 (fun _ _ f => f.elim)).step hEh7 (fun k hk w => by omega)
      have hnw5 : ∀ k, FB C X c5a k → FB C X a k ∨ h.size ≤ k := fun k w => by
        rcases w with w | w | w
        · exact .inl (.inl w)
        · exact .inl (.inr (.inl w))
        · rcases hx5.2 k w with z | z
          · exact hnw1 k (.inr (.inr z))
          · exact .inr (by omega)
      have hfl7 := ((hfl3.ext hE5 (fun k e w => by rcases w with w | w; (have h9 := hfb k e; omega); (exact (hfb k e).2 w))).ext hEh6 (fun _ _ f => f)).ext hEh7 (fun k e w => by have h9 := hfl.lt e; omega)
      have hgl7 := (hgl.ext hEh6 (fun _ _ f => f)).ext hEh7 (fun k e w => by have h9 := hgl.lt e; omega)
      refine S_nil (hK10 _ _ (V_keep [0, 6, 7, 9] (by simp only [proj, lk, reduceIte, Nat.reduceEqDiff]; rfl) ?_)); clear hK10
      refine V_seq (fun K11 hK11 => ?_)
      refine V_sr T.mix (by kernel_rfl) (fun K12 hK12 => ?_)
      first | refine S_fa0 T.f77_0 rfl ?_ | refine S_fa T.f77_0 rfl ?_
      refine S_ldK T.ag53 rfl (fun K' hK' => ?_)
      simp (disch := omega) only [a0, a1, a2, oP_some, Nat.add_zero]
      refine hK' _ ?_; clear hK' K'
      refine S_bin rfl rfl rfl ?_
      refine S_nil (hK12 _ _ (V_keep [0, 6, 7, 9, 39] (by simp only [proj, lk, reduceIte, Nat.reduceEqDiff]; rfl) ?_)); clear hK12
      refine V_condp rfl (fun c66 => ?_) (fun c66 => ?_)
      · skip
        refine V_sr T.mix (by kernel_rfl) (fun K13 hK13 => ?_)
        first | refine S_fa0 T.f77_0 rfl ?_ | refine S_fa T.f77_0 rfl ?_
        refine S_ldK T.ag53 rfl (fun K' hK' => ?_)
        simp (disch := omega) only [a0, a1, a2, oP_some, Nat.add_zero]
        refine hK' _ ?_; clear hK' K'
        first | refine S_fa0 T.f77_1 rfl ?_ | refine S_fa T.f77_1 rfl ?_
        refine S_ldK T.ag3 rfl (fun K' hK' => ?_)
        simp (disch := omega) only [a0, a1, a2, oP_some, Nat.add_zero]
        refine hK' _ ?_; clear hK' K'
        refine S_call T.hb29 rfl ?_
        refine FC.mono (refused_spec h7 ((parseF t).1 : Int) 1 ((parseF t).2.1 : Int)) ?_
        rintro v' h20 ⟨rfl, hEh20⟩
        have hRh20 := (hR7).ext hEh20 (fun f => f)
        have hRok : ∀ j, j < 3 → okPut h20 ⟨h.size, j, none⟩ = true := fun j hj => hRh20.ok (by simpa using hj)
        refine S_stl T.sz55 rfl rfl rfl rfl (fun j hj => by simp (disch := omega) only [hRok]) ?_
        generalize hh : putsH _ _ _ _ = h21
        have hR9 : B h21 (h.size) #[.int .i64 (((parseF t).1 : Int)), .int .i64 (1), .int .i64 (((parseF t).2.1 : Int))] 55 := by rw [← hh]; exact B.puts_all (hRh20) (cs' := #[.int .i64 (((parseF t).1 : Int)), .int .i64 (1), .int .i64 (((parseF t).2.1 : Int))]) rfl
        have hEh21 : Ext (fun k => k = h.size) h20 h21 := by rw [← hh]; exact Ext.puts (S := fun k => k = h.size) rfl _ _ _
        clear hh
        refine S_nil (hK13 _ _ (V_keep [6] (by simp only [proj, lk, reduceIte, Nat.reduceEqDiff]; rfl) ?_)); clear hK13
        refine V_ret ?_
        refine hR _ _ (retc1 rfl rfl T.ag55 hR9 (by rfl) ?_)
        refine ⟨c5a, c5, sl, ?_, (rs7.ext hEh20 (fun k hk f => f)).ext hEh21 (fun k hk w => by rcases hk with q | q | q; (omega); (omega); (rcases hx5.2 k q with h9 | h9; (rcases hx1.2 k h9 with h8 | h8; (have h7 := hal k h8; omega); (omega)); (omega))), (hEb.step hEh20 (fun _ _ f => f.elim)).step hEh21 (fun k hk w => by omega), hnw5⟩
        unfold chkF; rw [if_neg (by omega), if_neg (by omega), if_pos (by omega)]; rfl
      · skip
        have hz3 : (parseF t).1 = 0 := by omega
        have hok2 := rowsOf_ok (parseF_ok hz3).2
        refine V_skipk [0, 6, 7, 9] (by simp only [proj, lk, reduceIte, Nat.reduceEqDiff]; rfl) ?_
        refine hK11 _ _ ?_; clear hK11
        refine V_sr T.mix (by kernel_rfl) (fun K14 hK14 => ?_)
        refine S_mv rfl ?_
        refine S_call T.hb31 rfl ?_
        refine FC.mono (wipe_spec h7 C X sl rs7.ks) ?_
        rintro v' h8 ⟨rfl, hks8, hE8⟩
        have hfl8 := hfl7.ext hE8 (fun k e w => by have h9 := hfb k e; omega)
        try clear a0 a1 a2 haok
        obtain ⟨a0, a1, a2, haok⟩ := aq (hp7s.ext hE8 (fun w => by omega))
        refine S_nil (hK14 _ _ (V_keep [0, 6, 7, 9] (by simp only [proj, lk, reduceIte, Nat.reduceEqDiff]; rfl) ?_)); clear hK14
        refine V_sr T.mix (by kernel_rfl) (fun K15 hK15 => ?_)
        refine S_mv rfl ?_
        first | refine S_fa0 T.f77_2 rfl ?_ | refine S_fa T.f77_2 rfl ?_
        refine S_ldK T.ag59 rfl (fun K' hK' => ?_)
        simp (disch := omega) only [a2, oP_some, Nat.add_zero]
        refine hK' _ ?_; clear hK' K'
        refine S_call T.hb32 rfl ?_
        refine FC.mono (load_spec h8 C X (fun _ => none) hks8 fl _ (parseF s).2.2 hfl8 (by omega) (fun e => by have h9 := (hfb C e).1; omega) (rowsOf (parseF s).2.2) hok1.1.symm hok1.2 hfit.2 (by decide +kernel)) ?_
        rintro v' h9 ⟨rfl, ⟨sl9, hks9, hpm9⟩, hE9⟩
        try clear a0 a1 a2 haok
        obtain ⟨a0, a1, a2, haok⟩ := aq ((hp7.ext hE8 (fun w => by omega)).ext hE9 (fun w => by omega))
        refine S_nil (hK15 _ _ (V_keep [0, 6, 9] (by simp only [proj, lk, reduceIte, Nat.reduceEqDiff]; rfl) ?_)); clear hK15
        refine V_sr T.mix (by kernel_rfl) (fun K16 hK16 => ?_)
        refine S_mv rfl ?_
        first | refine S_fa0 T.f77_2 rfl ?_ | refine S_fa T.f77_2 rfl ?_
        refine S_ldK T.ag59 rfl (fun K' hK' => ?_)
        simp (disch := omega) only [a2, oP_some, Nat.add_zero]
        refine hK' _ ?_; clear hK' K'
        refine S_call T.hb33 rfl ?_
        refine FC.mono (follow_spec h9 C X sl9 hks9 gl _ (parseF t).2.2 ((hgl7.ext hE8 (fun k e w => by have h9 := hgb k e; omega)).ext hE9 (fun k e w => by have h9 := hgb k e; omega)) (by omega) (fun e => by have h9 := (hgb C e).1; omega) (rowsOf (parseF t).2.2) hok2.1.symm hok2.2) ?_
        rintro v' h20 ⟨rfl, ⟨sl20, hks20⟩, hE20⟩
        have hE820 := (hE8.trans hE9).trans hE20
        have hRh20 := hR7.ext hE820 (fun w => by omega)
        have hRok : ∀ j, j < 3 → okPut h20 ⟨h.size, j, none⟩ = true := fun j hj => hRh20.ok (by simpa using hj)
        refine S_stl T.sz55 rfl rfl rfl rfl (fun j hj => by simp (disch := omega) only [hRok]) ?_
        generalize hh : putsH _ _ _ _ = h21
        have hR9 : B h21 (h.size) #[.int .i64 ((fol (rowsOf (parseF t).2.2) (rowsS sl9 64) 0).1), .int .i64 (if (fol (rowsOf (parseF t).2.2) (rowsS sl9 64) 0).1 = 0 then 0 else 2), .int .i64 ((fol (rowsOf (parseF t).2.2) (rowsS sl9 64) 0).2)] 55 := by rw [← hh]; exact B.puts_all (hRh20) (cs' := #[.int .i64 ((fol (rowsOf (parseF t).2.2) (rowsS sl9 64) 0).1), .int .i64 (if (fol (rowsOf (parseF t).2.2) (rowsS sl9 64) 0).1 = 0 then 0 else 2), .int .i64 ((fol (rowsOf (parseF t).2.2) (rowsS sl9 64) 0).2)]) rfl
        have hEh21 : Ext (fun k => k = h.size) h20 h21 := by rw [← hh]; exact Ext.puts (S := fun k => k = h.size) rfl _ _ _
        clear hh
        refine S_nil (hK16 _ _ (V_keep [6] (by simp only [proj, lk, reduceIte, Nat.reduceEqDiff]; rfl) ?_)); clear hK16
        refine V_ret ?_
        refine hR _ _ (retc1 rfl rfl T.ag55 hR9 (by rfl) ?_)
        refine ⟨c5a, c5, sl20, ?_, ⟨hks20.ext hEh21 (fun w => by omega), (rs7.pa.ext hE820 (fun w => by omega) (fun k e w => by subst w; exact hna5 e)).ext hEh21 (fun w => by omega) (fun k q w => by rcases hx5.2 k q with h9 | h9; (rcases hx1.2 k h9 with h8 | h8; (have h7 := hal k h8; omega); (omega)); (omega)), hCX, hna5⟩, (hEb.step hE820 (fun k hk w => .inl w)).step hEh21 (fun k hk w => by omega), hnw5⟩
        have hfp := fol_perm (rowsOf (parseF t).2.2) 0 hpm9
        rw [hfp]
        unfold chkF; rw [if_neg (show ¬ (parseF s).1 ≠ 0 by omega), if_neg (show ¬ fitF (rowsOf (parseF s).2.2) ≠ 0 by omega), if_neg (show ¬ (parseF t).1 ≠ 0 by omega)]
        simp only []
        split <;> rfl
end Go.Proofs.Qxb6500398a
