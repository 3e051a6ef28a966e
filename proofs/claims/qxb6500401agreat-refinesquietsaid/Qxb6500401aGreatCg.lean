import Derived.Test.Qxb6500401aGreatCf
set_option linter.unusedVariables false
set_option linter.unusedSimpArgs false
namespace Go.Proofs.Qxb6500401aGreat.ChkW
open Go.Eng Go.Cnf

def natI (L : List Nat) : List Int := L.map Int.ofNat
theorem natI_app (a b : List Nat) : natI (a ++ b) = natI a ++ natI b := by simp [natI]
theorem u8s_app (a b : List Int) : u8s (a ++ b) = u8s a ++ u8s b := by simp [u8s]
theorem u8n_len (L : List Nat) : (u8s (natI L)).length = L.length := by simp [u8s, natI]
theorem u8n_one (L : List Nat) : (u8s (natI L)).all (·.oneCell') = true := by simp [u8s, natI, List.all_map]; intro x _; rfl
theorem mkS_nat (L : List Nat) : mkS (natI L) = textOf L := by unfold mkS textOf natI; rw [List.map_map]; rfl
theorem src_text (h : Heap) {L : List Nat} (hL : ∀ b ∈ L, b < 256) : srcV h 1 L.length (.string (textOf L)) = some (u8s (natI L)) := by
  simp only [srcV]
  congr 1
  refine List.ext_getElem? fun i => ?_
  by_cases hi : i < L.length
  · have := hL _ (List.getElem_mem hi)
    simp [textOf, u8s, natI, hi, this]; omega
  · simp [textOf, u8s, natI, hi]
theorem numB_itoa {x : Int} (h1 : x ≠ 13) (h2 : x ≠ 0) : numB x = itoaB x ++ [32] := by
  unfold numB itoaB; rw [if_neg h1, if_neg h2]; simp
theorem itoa_lt {x : Int} (h1 : x ≠ 13) (h2 : x ≠ 0) (h : FlatN x) : ∀ b ∈ itoaB x, b < 256 := by
  intro b hb
  exact (numB_lt x h).1 b (by rw [numB_itoa h1 h2]; exact List.mem_append_left _ hb)
set_option maxHeartbeats 400000 in
theorem mprint_spec (h : Heap) (M : Nat) (u w : Int) (hM : B h M #[.int .i64 u, .int .i64 w] 109) (a : Option Addr) (cap : Nat) (xs : List Int) (ho : IL h a cap xs) (hl : xs.length ≤ 1000000000) (hn : blkA a ≠ some M) :
    FC Tryz.prog 68 (#[.pointer (some ⟨M, 0, none⟩), .slice a xs.length cap] : Array Value) h fun v h' => v = .tuple #[.string (printF xs).1, .int .i64 (printF xs).2] ∧ Ext (fun b => b = M) h h' ∧ ∃ u w, B h' M #[.int .i64 u, .int .i64 w] 109 := by
  have hM1 : cellH h ⟨M, 1, none⟩ = some (.int .i64 w) := hM.cell 1
  have hMok : okPut h ⟨M, 1, none⟩ = true := hM.ok (by simp)
  refine FC_of [(0, .pointer (some ⟨M, 0, none⟩)), (1, .slice a xs.length cap)] Tryz.func68 rfl Tryz.ntmps68 (by simp) rfl (fun R hR => ?_)
  refine V_sr T.mix (by kernel_rfl) (fun K1 hK1 => ?_)
  refine S_as rfl ?_
  refine S_as rfl ?_
  refine S_nil (hK1 _ _ (V_keep [0, 1] (by simp only [proj, lk, reduceIte, Nat.reduceEqDiff]; rfl) ?_)); clear hK1
  refine V_sr T.mix (by kernel_rfl) (fun K2 hK2 => ?_)
  refine S_mv rfl ?_
  refine S_nc rfl ?_
  first | refine S_fa0 T.f109_1 rfl ?_ | refine S_fa T.f109_1 rfl ?_
  refine S_ldK T.ag3 rfl (fun K' hK' => ?_)
  simp (disch := omega) only [hM1, oP_some, Nat.add_zero]
  refine hK' _ ?_; clear hK' K'
  refine S_bin rfl rfl rfl ?_
  generalize hw2 : IntKind.i64.wrap _ = w2
  refine S_nc rfl ?_
  first | refine S_fa0 T.f109_1 rfl ?_ | refine S_fa T.f109_1 rfl ?_
  refine S_st T.sz3 rfl rfl rfl rfl (by simp (disch := omega) only [hMok]) ?_
  generalize hh : putH _ _ _ = h0
  replace hM : B h0 M #[.int .i64 u, .int .i64 w2] 109 := by rw [← hh]; exact hM.put 1 _
  have hE0 : Ext (fun b => b = M) h h0 := by rw [← hh]; exact Ext.put _ _ rfl
  clear hh hM1 hMok
  replace ho := ho.ext hE0 (fun b hb e => hn (e ▸ hb))
  refine S_nil (hK2 _ _ (V_keep [1] (by simp only [proj, lk, reduceIte, Nat.reduceEqDiff]; rfl) ?_)); clear hK2
  refine V_seq (fun K3 hK3 => ?_)
  refine V_sr T.mix (by kernel_rfl) (fun K4 hK4 => ?_)
  refine S_mv rfl ?_
  refine S_lenl T.el49 rfl ?_
  refine S_bin rfl rfl rfl ?_
  refine S_nil (hK4 _ _ (V_keep [1, 19] (by simp only [proj, lk, reduceIte, Nat.reduceEqDiff]; rfl) ?_)); clear hK4
  refine V_condp rfl (fun c149 => ?_) (fun c149 => ?_)
  · skip
    refine V_sr T.mix (by kernel_rfl) (fun K5 hK5 => ?_)
    refine S_as rfl ?_
    refine S_as rfl ?_
    refine S_nil (hK5 _ _ (V_keep [4, 5] (by simp only [proj, lk, reduceIte, Nat.reduceEqDiff]; rfl) ?_)); clear hK5
    refine V_ret ?_
    refine hR _ _ (ret2 rfl rfl rfl ?_)
    exact ⟨by unfold printF; rw [if_pos (by omega)]; rfl, hE0, _, _, hM⟩
  · skip
    refine V_skipk [1] (by simp only [proj, lk, reduceIte, Nat.reduceEqDiff]; rfl) ?_
    refine hK3 _ _ ?_; clear hK3
    refine V_seq (fun K6 hK6 => ?_)
    refine V_sr T.mix (by kernel_rfl) (fun K7 hK7 => ?_)
    refine S_mv rfl ?_
    refine S_call T.hb105 rfl ?_
    refine FC.mono (checkflat_spec h0 a cap xs ho (by omega)) ?_
    rintro v h' ⟨rfl, rfl⟩
    refine S_bin rfl rfl rfl ?_
    refine S_nil (hK7 _ _ (V_keep [1, 22] (by simp only [proj, lk, reduceIte, Nat.reduceEqDiff]; rfl) ?_)); clear hK7
    refine V_condp rfl (fun c152 => ?_) (fun c152 => ?_)
    · skip
      refine V_sr T.mix (by kernel_rfl) (fun K8 hK8 => ?_)
      refine S_as rfl ?_
      refine S_as rfl ?_
      refine S_nil (hK8 _ _ (V_keep [4, 5] (by simp only [proj, lk, reduceIte, Nat.reduceEqDiff]; rfl) ?_)); clear hK8
      refine V_ret ?_
      refine hR _ _ (ret2 rfl rfl rfl ?_)
      have hfo : ¬ flatOk xs = true := fun e => c152 (by rw [if_pos e])
      exact ⟨by unfold printF; rw [if_neg (by omega), if_neg hfo]; rfl, hE0, _, _, hM⟩
    · skip
      have hfo : flatOk xs = true := by cases hh : flatOk xs with | true => rfl | false => exact absurd (show (if flatOk xs = true then (0 : Int) else 6) ≠ 0 by rw [hh]; simp) c152
      refine V_skipk [1] (by simp only [proj, lk, reduceIte, Nat.reduceEqDiff]; rfl) ?_
      refine hK6 _ _ ?_; clear hK6
      refine V_sr T.mix (by kernel_rfl) (fun K9 hK9 => ?_)
      refine S_as rfl ?_
      refine S_nil (hK9 _ _ (V_keep [1, 6] (by simp only [proj, lk, reduceIte, Nat.reduceEqDiff]; rfl) ?_)); clear hK9
      refine V_seq (fun K10 hK10 => ?_)
      refine V_sr T.mix (by kernel_rfl) (fun K11 hK11 => ?_)
      refine S_as rfl ?_
      refine S_nil (hK11 _ _ (V_keep [1, 6, 7] (by simp only [proj, lk, reduceIte, Nat.reduceEqDiff]; rfl) ?_)); clear hK11
      refine V_block ?_
      refine V_loop (fun m l h' => ∃ (i : Nat) (hk : Heap) (ak : Option Addr) (ck : Nat) (L : List Nat), (i ≤ xs.length) ∧ (L = printB (xs.take i)) ∧ (OwnR h0.size hk ak L.length ck (u8s (natI L)) 5 1) ∧ (Ext (fun _ => False) h0 hk) ∧ m = xs.length - i ∧ l = [(1, .slice a xs.length cap), (6, .slice ak L.length ck), (7, .int .i64 i)] ∧ hk = h') _ ⟨0, h0, none, 0, [], by omega, rfl, OwnR.nil _ _ _ _, Ext.refl _ _, rfl, rfl, rfl⟩ ?_
      rintro m l h' ⟨i, hk, ak, ck, L, hi, hL, hos, hEk, rfl, rfl, rfl⟩ K12 hK12
      refine V_seq (fun K13 hK13 => ?_)
      refine V_sr T.mix (by kernel_rfl) (fun K14 hK14 => ?_)
      refine S_mv rfl ?_
      refine S_mv rfl ?_
      refine S_lenl T.el49 rfl ?_
      refine S_bin rfl rfl rfl ?_
      refine S_nil (hK14 _ _ (V_keep [1, 6, 7, 26] (by simp only [proj, lk, reduceIte, Nat.reduceEqDiff]; rfl) ?_)); clear hK14
      refine V_condp rfl (fun c156 => ?_) (fun c156 => ?_)
      · skip
        have hfx : FlatN (xs.getD i 0) := flat_rng hfo _ (by rw [List.getD_eq_getElem?_getD, List.getElem?_eq_getElem (by omega)]; simp)
        obtain ⟨ba, rfl, ha2, ha3, _⟩ := IL.get (ho.ext hEk (fun _ _ f => f)) (by omega)
        have hpt := print_take (l := xs) (i := i) (by omega)
        have hlt := print_take_le (flat_rng hfo) i
        rw [← hL] at hlt
        refine V_skipk [1, 6, 7] (by simp only [proj, lk, reduceIte, Nat.reduceEqDiff]; rfl) ?_
        refine hK13 _ _ ?_; clear hK13
        refine V_seq (fun K15 hK15 => ?_)
        refine V_block ?_
        refine V_sr T.mix (by kernel_rfl) (fun K16 hK16 => ?_)
        refine S_mv rfl ?_
        refine S_mv rfl ?_
        first | refine S_ixn T.el49 rfl rfl (by omega) ?_ | refine S_ix1 T.el49 rfl rfl (by omega) (by omega) ?_ | refine S_ix T.el49 rfl rfl (by omega) (by omega) ?_
        refine S_ldK T.ag3 rfl (fun K' hK' => ?_)
        simp (disch := omega) only [ha3, oP_some, Nat.add_zero]
        refine hK' _ ?_; clear hK' K'
        refine S_as rfl ?_
        refine S_nil (hK16 _ _ (V_keep [1, 6, 7, 8] (by simp only [proj, lk, reduceIte, Nat.reduceEqDiff]; rfl) ?_)); clear hK16
        refine V_sr T.mix (by kernel_rfl) (fun K17 hK17 => ?_)
        refine S_mv rfl ?_
        refine S_bin rfl rfl rfl ?_
        refine S_nil (hK17 _ _ (V_keep [1, 6, 7, 8, 34] (by simp only [proj, lk, reduceIte, Nat.reduceEqDiff]; rfl) ?_)); clear hK17
        refine V_condp rfl (fun c158 => ?_) (fun c158 => ?_)
        · skip
          refine V_reg T.mix (by kernel_rfl) ?_
          refine S_mv rfl ?_
          refine S_appx (x := .string (textOf [100, 32])) (n := ([100, 32] : List Nat).length) (vs := u8s (natI [100, 32])) T.ei61 T.ni9 T.us9 rfl (by simp only [lenV]; rw [textOf_size]) rfl hos (by have := hEk.1; omega) (src_text _ (by decide)) (by rw [u8n_len, Nat.mul_one]) (by simp only [List.length_cons, List.length_nil]; omega) (by decide) (by decide) (u8n_one _) (fun a1 cap1 h1 ho1 hE1 hb1 => ?_)
          have hE9 : Ext (fun _ => False) h0 h1 := hEk.step hE1 (fun b hb e => by have := OwnR.blk2 hos e; omega)
          refine S_as rfl ?_
          refine S_nilk [1, 6, 7] (by simp only [proj, lk, reduceIte, Nat.reduceEqDiff]; rfl) ?_
          refine hK15 _ _ ?_; clear hK15
          refine V_reg T.mix (by kernel_rfl) ?_
          refine S_mv rfl ?_
          first | refine S_add rfl rfl (by omega) (by omega) ?_ | refine S_bin rfl rfl rfl ?_
          refine S_as rfl ?_
          refine S_nilk [1, 6, 7] (by simp only [proj, lk, reduceIte, Nat.reduceEqDiff]; rfl) ?_
          exact hK12 _ _ ⟨_, by omega, i + 1, h1, a1, cap1, L ++ [100, 32], by omega, by rw [hpt, hL, c158]; rfl, by rw [natI_app, u8s_app, List.length_append]; exact ho1, hE9, rfl, by simp, rfl⟩
        · skip
          refine V_sr T.mix (by kernel_rfl) (fun K18 hK18 => ?_)
          refine S_mv rfl ?_
          refine S_bin rfl rfl rfl ?_
          refine S_nil (hK18 _ _ (V_keep [1, 6, 7, 8, 38] (by simp only [proj, lk, reduceIte, Nat.reduceEqDiff]; rfl) ?_)); clear hK18
          refine V_condp rfl (fun c160 => ?_) (fun c160 => ?_)
          · skip
            refine V_reg T.mix (by kernel_rfl) ?_
            refine S_mv rfl ?_
            refine S_appx (x := .string (textOf [48, 10])) (n := ([48, 10] : List Nat).length) (vs := u8s (natI [48, 10])) T.ei61 T.ni9 T.us9 rfl (by simp only [lenV]; rw [textOf_size]) rfl hos (by have := hEk.1; omega) (src_text _ (by decide)) (by rw [u8n_len, Nat.mul_one]) (by simp only [List.length_cons, List.length_nil]; omega) (by decide) (by decide) (u8n_one _) (fun a1 cap1 h1 ho1 hE1 hb1 => ?_)
            have hE9 : Ext (fun _ => False) h0 h1 := hEk.step hE1 (fun b hb e => by have := OwnR.blk2 hos e; omega)
            refine S_as rfl ?_
            refine S_nilk [1, 6, 7] (by simp only [proj, lk, reduceIte, Nat.reduceEqDiff]; rfl) ?_
            refine hK15 _ _ ?_; clear hK15
            refine V_reg T.mix (by kernel_rfl) ?_
            refine S_mv rfl ?_
            first | refine S_add rfl rfl (by omega) (by omega) ?_ | refine S_bin rfl rfl rfl ?_
            refine S_as rfl ?_
            refine S_nilk [1, 6, 7] (by simp only [proj, lk, reduceIte, Nat.reduceEqDiff]; rfl) ?_
            exact hK12 _ _ ⟨_, by omega, i + 1, h1, a1, cap1, L ++ [48, 10], by omega, by rw [hpt, hL, c160]; rfl, by rw [natI_app, u8s_app, List.length_append]; exact ho1, hE9, rfl, by simp, rfl⟩
          · skip
            refine V_sr T.mix (by kernel_rfl) (fun K19 hK19 => ?_)
            refine S_mv rfl ?_
            refine S_call T.hb106 rfl ?_
            refine FC.mono (itoa_spec hk _ c160 (by unfold FlatN at hfx; omega) (by unfold FlatN at hfx; omega)) ?_
            rintro v h2 ⟨rfl, hEi⟩
            have hos2 := hos.ext hEi (fun _ _ f => f)
            have hE2 := hEk.trans hEi
            refine S_as rfl ?_
            refine S_nil (hK19 _ _ (V_keep [1, 6, 7, 9] (by simp only [proj, lk, reduceIte, Nat.reduceEqDiff]; rfl) ?_)); clear hK19
            refine V_sr T.mix (by kernel_rfl) (fun K20 hK20 => ?_)
            refine S_mv rfl ?_
            refine S_mv rfl ?_
            have hil : (itoaB (xs.getD i 0)).length ≤ 4 := by have hh2 := (numB_lt _ hfx).2; rw [numB_itoa c158 c160, List.length_append] at hh2; omega
            refine S_appx (x := .string (textOf (itoaB (xs.getD i 0)))) (n := ((itoaB (xs.getD i 0)) : List Nat).length) (vs := u8s (natI (itoaB (xs.getD i 0)))) T.ei61 T.ni9 T.us9 rfl (by simp only [lenV]; rw [textOf_size]) rfl hos2 (by have := hE2.1; omega) (src_text _ (itoa_lt c158 c160 hfx)) (by rw [u8n_len, Nat.mul_one]) (by omega) (by decide) (by decide) (u8n_one _) (fun a1 cap1 h1 ho1 hE1 hb1 => ?_)
            have hE9 : Ext (fun _ => False) h0 h1 := hE2.step hE1 (fun b hb e => by have := OwnR.blk2 hos2 e; omega)
            have ho1b : OwnR h0.size h1 a1 (L ++ itoaB (xs.getD i 0)).length cap1 (u8s (natI (L ++ itoaB (xs.getD i 0)))) 5 1 := by rw [natI_app, u8s_app, List.length_append]; exact ho1
            have hE1c := hE9
            refine S_as rfl ?_
            refine S_nil (hK20 _ _ (V_keep [1, 6, 7] (by simp only [proj, lk, reduceIte, Nat.reduceEqDiff]; rfl) ?_)); clear hK20
            refine V_reg T.mix (by kernel_rfl) ?_
            refine S_mv rfl ?_
            refine S_bs T.ei61 rfl (by decide) (by decide) (T.bs61_1_0 _) ?_
            refine S_appx (lo := h0.size) T.ei61 T.ni61 T.us61 rfl rfl rfl (ho1.ext (Ext.push (fun _ => False) _ _) (fun _ _ f => f)) (by have := hE1c.1; simp; omega) (cellsH_new _ _ _) rfl (by omega) (by decide) (by decide) rfl (fun a4 cap4 h4 ho4 hE4a hb4 => ?_)
            have hE4 : Ext (fun _ => False) h0 h4 := (hE1c.pushn _).step hE4a (fun b hb e => by have := OwnR.blk2 ho1 e; omega)
            have ho4b : OwnR h0.size h4 a4 (L ++ itoaB (xs.getD i 0) ++ [32]).length cap4 (u8s (natI (L ++ itoaB (xs.getD i 0) ++ [32]))) 5 1 := by rw [natI_app, natI_app, u8s_app, u8s_app, List.length_append, List.length_append]; exact ho4
            refine S_as rfl ?_
            refine S_nilk [1, 6, 7] (by simp only [proj, lk, reduceIte, Nat.reduceEqDiff]; rfl) ?_
            refine hK15 _ _ ?_; clear hK15
            refine V_reg T.mix (by kernel_rfl) ?_
            refine S_mv rfl ?_
            first | refine S_add rfl rfl (by omega) (by omega) ?_ | refine S_bin rfl rfl rfl ?_
            refine S_as rfl ?_
            refine S_nilk [1, 6, 7] (by simp only [proj, lk, reduceIte, Nat.reduceEqDiff]; rfl) ?_
            exact hK12 _ _ ⟨_, by omega, i + 1, h4, a4, cap4, L ++ itoaB (xs.getD i 0) ++ [32], by omega, by rw [hpt, hL, numB_itoa c158 c160]; simp, ho4b, hE4, rfl, by simp [Nat.add_assoc], rfl⟩
      · skip
        refine V_exitk [6] rfl (by simp only [proj, lk, reduceIte, Nat.reduceEqDiff]; rfl) ?_
        refine hK10 _ _ ?_; clear hK10
        refine V_sr T.mix (by kernel_rfl) (fun K21 hK21 => ?_)
        refine S_mv rfl ?_
        refine S_str T.kd61 T.kd9 T.in9 rfl (OwnR.cells hos) ?_
        refine S_as rfl ?_
        refine S_as rfl ?_
        refine S_nil (hK21 _ _ (V_keep [4, 5] (by simp only [proj, lk, reduceIte, Nat.reduceEqDiff]; rfl) ?_)); clear hK21
        refine V_ret ?_
        refine hR _ _ (ret2 rfl rfl rfl ?_)
        have hii : i = xs.length := by omega
        subst hii
        rw [List.take_length] at hL
        refine ⟨?_, hE0.step hEk (fun b hb f => f.elim), _, _, hM.ext hEk (fun f => f)⟩
        unfold printF
        rw [if_neg (by omega), if_pos hfo, mkS_nat, hL]
        rfl
set_option maxHeartbeats 400000 in
theorem mnew_spec (h : Heap) :
    FC Tryz.prog 24 (#[] : Array Value) h fun v h' => v = .pointer (some ⟨h.size, 0, none⟩) ∧ B h' h.size #[.int .i64 0, .int .i64 0] 109 ∧ Ext (fun _ => False) h h' := by
  refine FC_of [] Tryz.func24 rfl Tryz.ntmps24 (by simp) rfl (fun R hR => ?_)
  refine V_sr T.mix (by kernel_rfl) (fun K1 hK1 => ?_)
  refine S_as rfl ?_
  refine S_nil (hK1 _ _ (V_keep [] (by simp only [proj, lk, reduceIte, Nat.reduceEqDiff]; rfl) ?_)); clear hK1
  refine V_sr T.mix (by kernel_rfl) (fun K2 hK2 => ?_)
  refine S_bld rfl (T.bld109) ?_
  refine S_boxA rfl ?_
  refine S_as rfl ?_
  refine S_nil (hK2 _ _ (V_keep [0] (by simp only [proj, lk, reduceIte, Nat.reduceEqDiff]; rfl) ?_)); clear hK2
  refine V_ret ?_
  refine hR _ _ (ret1 rfl rfl ?_)
  exact ⟨rfl, B.new _ _ _, Ext.push _ _ _⟩
end Go.Proofs.Qxb6500401aGreat.ChkW
