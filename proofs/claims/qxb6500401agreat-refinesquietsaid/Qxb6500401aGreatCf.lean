import Derived.Test.Qxb6500401aGreatCe
set_option linter.unusedVariables false
set_option linter.unusedSimpArgs false
namespace Go.Proofs.Qxb6500401aGreat.ChkW
open Go.Eng Go.Cnf

theorem mem_take_snoc {l : List Int} {i : Nat} {x : Int} (h : i < l.length) : x ∈ l.take (i + 1) ↔ x ∈ l.take i ∨ x = l.getD i 0 := by
  rw [getD_snoc l i h]; simp
theorem nrm_len (row : List Int) : ∀ k, (nrmTo row k).length ≤ 2 * k
  | 0 => by simp [nrmTo]
  | k + 1 => by
    have := nrm_len row k
    simp only [nrmTo, List.length_append]
    split <;> split <;> simp <;> omega
theorem nrm_step (row : List Int) {v : Nat} (h : 1 ≤ v) : nrmTo row (v + 1 - 1) = nrmTo row (v - 1) ++ ((if (v : Int) ∈ row then [(v : Int)] else []) ++ (if -(v : Int) ∈ row then [-(v : Int)] else [])) := by
  obtain ⟨u, rfl⟩ : ∃ u, v = u + 1 := ⟨v - 1, by omega⟩
  simp [nrmTo]
theorem cls_space (c : Nat) : ccls c = 1 ↔ (c = 32 ∨ c = 9 ∨ c = 13 ∨ c = 10) := by
  unfold ccls; repeat' split
  all_goals omega

theorem ret4 {P : Program} {fn : Func} {Rel : Value → Heap → Prop} {l : Fr} {h : Heap} {t u s r : Nat} {v w x y : Value} (hr : fn.results = #[.tmp t, .tmp u, .tmp s, .tmp r]) (hv : E l t = some v) (hw : E l u = some w) (hx : E l s = some x) (hy : E l r = some y) (hR : Rel (.tuple #[v, w, x, y]) h) : retK P fn Rel l h :=
  ⟨[v, w, x, y], by rw [hr]; simp only [resV, hv, hw, hx, hy], hR⟩
theorem bx_at {s : ByteArray} {i : Nat} (h : i < s.size) : bAt s i = bx s i := by unfold bx; rw [if_pos h]
theorem numR_mk {f : Nat → Nat} {a b v e loc i : Nat} {neg : Bool} (hi : i = if f a = 45 then a + 1 else a)
    (h : (∃ k, i ≤ k ∧ k < b ∧ (∀ m, i ≤ m → m < k → dig (f m)) ∧ ¬ dig (f k) ∧ v = 0 ∧ neg = false ∧ e = 2 ∧ loc = k) ∨
  ((∀ m, i ≤ m → m < b → dig (f m)) ∧ ((i = b ∧ v = 0 ∧ neg = false ∧ e = 3 ∧ loc = a) ∨
    (i < b ∧ ((valF f i (b - i) = 0 ∧ decide (f a = 45) = true ∧ v = 0 ∧ neg = false ∧ e = 3 ∧ loc = a) ∨
      (¬ (valF f i (b - i) = 0 ∧ decide (f a = 45) = true) ∧ 12 < valF f i (b - i) ∧ v = 0 ∧ neg = false ∧ e = 4 ∧ loc = a) ∨
      (¬ (valF f i (b - i) = 0 ∧ decide (f a = 45) = true) ∧ valF f i (b - i) ≤ 12 ∧ v = valF f i (b - i) ∧ neg = decide (f a = 45) ∧ e = 0 ∧ loc = 0)))))) : NumR f a b v neg e loc := by
  subst hi; exact h
theorem valF_le (f : Nat → Nat) (a n : Nat) : valF f a n ≤ 13 := by
  cases n with
  | zero => simp [valF]
  | succ n => simp only [valF, satF]; split <;> omega
set_option maxHeartbeats 400000 in
theorem space_spec (h : Heap) (c : Nat) :
    FC Tryz.prog 108 (#[.int .u8 c] : Array Value) h fun v h' => v = .bool (decide (ccls c = 1)) ∧ h = h' := by
  have hcs := cls_space c
  refine FC_of [(0, .int .u8 c)] Tryz.func108 rfl Tryz.ntmps108 (by simp) rfl (fun R hR => ?_)
  refine V_sr T.mix (by kernel_rfl) (fun K1 hK1 => ?_)
  refine S_as rfl ?_
  refine S_nil (hK1 _ _ (V_keep [0] (by simp only [proj, lk, reduceIte, Nat.reduceEqDiff]; rfl) ?_)); clear hK1
  refine V_sr T.mix (by kernel_rfl) (fun K2 hK2 => ?_)
  refine S_mv rfl ?_
  refine S_bin rfl rfl rfl ?_
  refine S_mv rfl ?_
  refine S_dec (fun g18 => ?_) (fun g18 => ?_)
  · skip
    refine S_gf rfl ?_
    refine S_gf rfl ?_
    refine S_pt rfl rfl ?_
    refine S_mv rfl ?_
    refine S_gf rfl ?_
    refine S_gf rfl ?_
    refine S_pt rfl rfl ?_
    refine S_mv rfl ?_
    refine S_gf rfl ?_
    refine S_gf rfl ?_
    refine S_pt rfl rfl ?_
    refine S_as rfl ?_
    refine S_nil (hK2 _ _ (V_keep [2] (by simp only [proj, lk, reduceIte, Nat.reduceEqDiff]; rfl) ?_)); clear hK2
    refine V_ret ?_
    refine hR _ _ (ret1 rfl rfl ?_)
    exact ⟨by congr 1; first | exact decide_eq_decide.2 (by omega) | exact (decide_eq_false (by omega)).symm | exact (decide_eq_true (by omega)).symm, rfl⟩
  · skip
    refine S_gt rfl ?_
    refine S_mv rfl ?_
    refine S_gt rfl ?_
    refine S_bin rfl rfl rfl ?_
    refine S_pf rfl rfl ?_
    refine S_mv rfl ?_
    refine S_dec (fun g18a => ?_) (fun g18a => ?_)
    · skip
      refine S_gf rfl ?_
      refine S_gf rfl ?_
      refine S_pt rfl rfl ?_
      refine S_mv rfl ?_
      refine S_gf rfl ?_
      refine S_gf rfl ?_
      refine S_pt rfl rfl ?_
      refine S_as rfl ?_
      refine S_nil (hK2 _ _ (V_keep [2] (by simp only [proj, lk, reduceIte, Nat.reduceEqDiff]; rfl) ?_)); clear hK2
      refine V_ret ?_
      refine hR _ _ (ret1 rfl rfl ?_)
      exact ⟨by congr 1; first | exact decide_eq_decide.2 (by omega) | exact (decide_eq_false (by omega)).symm | exact (decide_eq_true (by omega)).symm, rfl⟩
    · skip
      refine S_gt rfl ?_
      refine S_mv rfl ?_
      refine S_gt rfl ?_
      refine S_bin rfl rfl rfl ?_
      refine S_pf rfl rfl ?_
      refine S_mv rfl ?_
      refine S_dec (fun g18b => ?_) (fun g18b => ?_)
      · skip
        refine S_gf rfl ?_
        refine S_gf rfl ?_
        refine S_pt rfl rfl ?_
        refine S_as rfl ?_
        refine S_nil (hK2 _ _ (V_keep [2] (by simp only [proj, lk, reduceIte, Nat.reduceEqDiff]; rfl) ?_)); clear hK2
        refine V_ret ?_
        refine hR _ _ (ret1 rfl rfl ?_)
        exact ⟨by congr 1; first | exact decide_eq_decide.2 (by omega) | exact (decide_eq_false (by omega)).symm | exact (decide_eq_true (by omega)).symm, rfl⟩
      · skip
        refine S_gt rfl ?_
        refine S_mv rfl ?_
        refine S_gt rfl ?_
        refine S_bin rfl rfl rfl ?_
        refine S_pf rfl rfl ?_
        refine S_as rfl ?_
        refine S_nil (hK2 _ _ (V_keep [2] (by simp only [proj, lk, reduceIte, Nat.reduceEqDiff]; rfl) ?_)); clear hK2
        refine V_ret ?_
        refine hR _ _ (ret1 rfl rfl ?_)
        exact ⟨by congr 1; first | exact decide_eq_decide.2 (by omega) | exact (decide_eq_false (by omega)).symm | exact (decide_eq_true (by omega)).symm, rfl⟩
set_option maxHeartbeats 400000 in
theorem in_spec (h : Heap) (a : Option Addr) (cap : Nat) (xs : List Int) (ho : IL h a cap xs) (hl : xs.length ≤ 1099511627776) (x : Int) :
    FC Tryz.prog 134 (#[.slice a xs.length cap, .int .i64 x] : Array Value) h fun v h' => v = .bool (decide (x ∈ xs)) ∧ h = h' := by
  refine FC_of [(0, .slice a xs.length cap), (1, .int .i64 x)] Tryz.func134 rfl Tryz.ntmps134 (by simp) rfl (fun R hR => ?_)
  refine V_sr T.mix (by kernel_rfl) (fun K1 hK1 => ?_)
  refine S_as rfl ?_
  refine S_nil (hK1 _ _ (V_keep [0, 1] (by simp only [proj, lk, reduceIte, Nat.reduceEqDiff]; rfl) ?_)); clear hK1
  refine V_seq (fun K2 hK2 => ?_)
  refine V_sr T.mix (by kernel_rfl) (fun K3 hK3 => ?_)
  refine S_as rfl ?_
  refine S_nil (hK3 _ _ (V_keep [0, 1, 5] (by simp only [proj, lk, reduceIte, Nat.reduceEqDiff]; rfl) ?_)); clear hK3
  refine V_block ?_
  refine V_loop (fun m l h' => ∃ (i : Nat), (i ≤ xs.length) ∧ (x ∉ xs.take i) ∧ m = xs.length - i ∧ l = [(0, .slice a xs.length cap), (1, .int .i64 x), (5, .int .i64 i)] ∧ h = h') _ ⟨0, by omega, by simp, rfl, rfl, rfl⟩ ?_
  rintro m l h' ⟨i, hi, hq, rfl, rfl, rfl⟩ K4 hK4
  refine V_seq (fun K5 hK5 => ?_)
  refine V_sr T.mix (by kernel_rfl) (fun K6 hK6 => ?_)
  refine S_mv rfl ?_
  refine S_mv rfl ?_
  refine S_lenl T.el49 rfl ?_
  refine S_bin rfl rfl rfl ?_
  refine S_nil (hK6 _ _ (V_keep [0, 1, 5, 9] (by simp only [proj, lk, reduceIte, Nat.reduceEqDiff]; rfl) ?_)); clear hK6
  refine V_condp rfl (fun c53 => ?_) (fun c53 => ?_)
  · skip
    obtain ⟨ba, rfl, ha2, ha3, _⟩ := IL.get ho (by omega)
    have hms := mem_take_snoc (l := xs) (i := i) (x := x) (by omega)
    refine V_skipk [0, 1, 5] (by simp only [proj, lk, reduceIte, Nat.reduceEqDiff]; rfl) ?_
    refine hK5 _ _ ?_; clear hK5
    refine V_seq (fun K7 hK7 => ?_)
    refine V_block ?_
    refine V_sr T.mix (by kernel_rfl) (fun K8 hK8 => ?_)
    refine S_mv rfl ?_
    refine S_mv rfl ?_
    first | refine S_ixn T.el49 rfl rfl (by omega) ?_ | refine S_ix1 T.el49 rfl rfl (by omega) (by omega) ?_ | refine S_ix T.el49 rfl rfl (by omega) (by omega) ?_
    refine S_ldK T.ag3 rfl (fun K' hK' => ?_)
    simp (disch := omega) only [ha3, oP_some, Nat.add_zero]
    refine hK' _ ?_; clear hK' K'
    refine S_mv rfl ?_
    refine S_bin rfl rfl rfl ?_
    refine S_nil (hK8 _ _ (V_keep [0, 1, 5, 17] (by simp only [proj, lk, reduceIte, Nat.reduceEqDiff]; rfl) ?_)); clear hK8
    refine V_condp rfl (fun c54 => ?_) (fun c54 => ?_)
    · skip
      refine V_sr T.mix (by kernel_rfl) (fun K9 hK9 => ?_)
      refine S_as rfl ?_
      refine S_nil (hK9 _ _ (V_keep [4] (by simp only [proj, lk, reduceIte, Nat.reduceEqDiff]; rfl) ?_)); clear hK9
      refine V_ret ?_
      refine hR _ _ (ret1 rfl rfl ?_)
      have hm : x ∈ xs := List.mem_of_mem_take (hms.2 (.inr c54.symm))
      exact ⟨by rw [decide_eq_true hm], rfl⟩
    · skip
      refine V_skipk [0, 1, 5] (by simp only [proj, lk, reduceIte, Nat.reduceEqDiff]; rfl) ?_
      refine hK7 _ _ ?_; clear hK7
      refine V_reg T.mix (by kernel_rfl) ?_
      refine S_mv rfl ?_
      first | refine S_add rfl rfl (by omega) (by omega) ?_ | refine S_bin rfl rfl rfl ?_
      refine S_as rfl ?_
      refine S_nilk [0, 1, 5] (by simp only [proj, lk, reduceIte, Nat.reduceEqDiff]; rfl) ?_
      exact hK4 _ _ ⟨_, by omega, i + 1, by omega, by rw [hms]; rintro (e | e); (exact hq e); (exact c54 e.symm), rfl, rfl, rfl⟩
  · skip
    refine V_exitk [] rfl (by simp only [proj, lk, reduceIte, Nat.reduceEqDiff]; rfl) ?_
    refine hK2 _ _ ?_; clear hK2
    refine V_sr T.mix (by kernel_rfl) (fun K10 hK10 => ?_)
    refine S_as rfl ?_
    refine S_nil (hK10 _ _ (V_keep [4] (by simp only [proj, lk, reduceIte, Nat.reduceEqDiff]; rfl) ?_)); clear hK10
    refine V_ret ?_
    refine hR _ _ (ret1 rfl rfl ?_)
    rw [List.take_of_length_le (by omega)] at hq
    exact ⟨by rw [decide_eq_false hq], rfl⟩
set_option maxHeartbeats 400000 in
theorem norm_spec (h : Heap) (a : Option Addr) (cap : Nat) (xs : List Int) (ho : IL h a cap xs) (hl : xs.length ≤ 1099511627776) :
    FC Tryz.prog 110 (#[.slice a xs.length cap] : Array Value) h fun v h' => Ext (fun _ => False) h h' ∧ ((Taut xs ∧ v = .tuple #[.slice none 0 0, .bool false]) ∨ (¬ Taut xs ∧ ∃ a' cap', v = .tuple #[.slice a' (nrmTo xs 12).length cap', .bool true] ∧ OwnR h.size h' a' (nrmTo xs 12).length cap' (ints (nrmTo xs 12)) 3 1)) := by
  refine FC_of [(0, .slice a xs.length cap)] Tryz.func110 rfl Tryz.ntmps110 (by simp) rfl (fun R hR => ?_)
  refine V_sr T.mix (by kernel_rfl) (fun K1 hK1 => ?_)
  refine S_as rfl ?_
  refine S_as rfl ?_
  refine S_nil (hK1 _ _ (V_keep [0] (by simp only [proj, lk, reduceIte, Nat.reduceEqDiff]; rfl) ?_)); clear hK1
  refine V_sr T.mix (by kernel_rfl) (fun K2 hK2 => ?_)
  refine S_as rfl ?_
  refine S_nil (hK2 _ _ (V_keep [0, 4] (by simp only [proj, lk, reduceIte, Nat.reduceEqDiff]; rfl) ?_)); clear hK2
  refine V_seq (fun K3 hK3 => ?_)
  refine V_sr T.mix (by kernel_rfl) (fun K4 hK4 => ?_)
  refine S_as rfl ?_
  refine S_nil (hK4 _ _ (V_keep [0, 4, 5] (by simp only [proj, lk, reduceIte, Nat.reduceEqDiff]; rfl) ?_)); clear hK4
  refine V_block ?_
  refine V_loop (fun m l h' => ∃ (v : Nat) (hk : Heap) (ak : Option Addr) (ck : Nat) (ys : List Int), (1 ≤ v) ∧ (v ≤ 13) ∧ (ys = nrmTo xs (v - 1)) ∧ (OwnR h.size hk ak ys.length ck (ints ys) 3 1) ∧ (Ext (fun _ => False) h hk) ∧ (∀ u : Nat, 1 ≤ u → u < v → ¬ ((u : Int) ∈ xs ∧ -(u : Int) ∈ xs)) ∧ m = 13 - v ∧ l = [(0, .slice a xs.length cap), (4, .slice ak ys.length ck), (5, .int .i64 v)] ∧ hk = h') _ ⟨1, h, none, 0, [], by omega, by omega, rfl, OwnR.nil _ _ _ _, Ext.refl _ _, fun u h1 h2 => by omega, rfl, rfl, rfl⟩ ?_
  rintro m l h' ⟨v, hk, ak, ck, ys, hv1, hv2, hys, hon, hE, hnt, rfl, rfl, rfl⟩ K5 hK5
  refine V_seq (fun K6 hK6 => ?_)
  refine V_sr T.mix (by kernel_rfl) (fun K7 hK7 => ?_)
  refine S_mv rfl ?_
  refine S_bin rfl rfl rfl ?_
  refine S_nil (hK7 _ _ (V_keep [0, 4, 5, 9] (by simp only [proj, lk, reduceIte, Nat.reduceEqDiff]; rfl) ?_)); clear hK7
  refine V_condp rfl (fun c64 => ?_) (fun c64 => ?_)
  · skip
    have hnl := nrm_len xs (v - 1)
    have hyl : ys.length ≤ 24 := by rw [hys]; omega
    refine V_skipk [0, 4, 5] (by simp only [proj, lk, reduceIte, Nat.reduceEqDiff]; rfl) ?_
    refine hK6 _ _ ?_; clear hK6
    refine V_seq (fun K8 hK8 => ?_)
    refine V_block ?_
    refine V_sr T.mix (by kernel_rfl) (fun K9 hK9 => ?_)
    refine S_mv rfl ?_
    refine S_mv rfl ?_
    refine S_call T.hb134 rfl ?_
    refine FC.mono (in_spec hk a cap xs (ho.ext hE (fun _ _ f => f)) hl _) ?_
    rintro v h' ⟨rfl, rfl⟩
    refine S_as rfl ?_
    refine S_nil (hK9 _ _ (V_keep [0, 4, 5, 6] (by simp only [proj, lk, reduceIte, Nat.reduceEqDiff]; rfl) ?_)); clear hK9
    refine V_sr T.mix (by kernel_rfl) (fun K10 hK10 => ?_)
    refine S_mv rfl ?_
    refine S_mv rfl ?_
    first | refine S_neg rfl (by omega) (by omega) ?_ | refine S_un rfl rfl ?_
    refine S_call T.hb134 rfl ?_
    refine FC.mono (in_spec hk a cap xs (ho.ext hE (fun _ _ f => f)) hl _) ?_
    rintro v h' ⟨rfl, rfl⟩
    refine S_as rfl ?_
    refine S_nil (hK10 _ _ (V_keep [0, 4, 5, 6, 7] (by simp only [proj, lk, reduceIte, Nat.reduceEqDiff]; rfl) ?_)); clear hK10
    refine V_seq (fun K11 hK11 => ?_)
    refine V_sr T.mix (by kernel_rfl) (fun K12 hK12 => ?_)
    refine S_cut (K' := fun l h' => ∃ b : Bool, (b = true ↔ ((v : Int) ∈ xs ∧ -(v : Int) ∈ xs)) ∧ l = [(0, .slice a xs.length cap), (4, .slice ak ys.length ck), (5, .int .i64 v), (6, .bool (decide ((v : Int) ∈ xs))), (7, .bool (decide (-(v : Int) ∈ xs))), (22, .bool b)] ∧ hk = h') ?_ ?_
    · skip
      refine S_mv rfl ?_
      refine S_mv rfl ?_
      refine S_decb (fun g67 => ?_) (fun g67 => ?_)
      · skip
        refine S_gt rfl ?_
        refine S_mv rfl ?_
        refine S_pt rfl rfl ?_
        exact S_nilk [0, 4, 5, 6, 7, 22] (by simp only [proj, lk, reduceIte, Nat.reduceEqDiff]; rfl) ⟨_, (by simp only [decide_eq_true_eq, decide_eq_false_iff_not] at g67; simp [g67]), rfl, rfl⟩
      · skip
        refine S_gf rfl ?_
        refine S_pf rfl rfl ?_
        exact S_nilk [0, 4, 5, 6, 7, 22] (by simp only [proj, lk, reduceIte, Nat.reduceEqDiff]; rfl) ⟨_, (by simp only [decide_eq_true_eq, decide_eq_false_iff_not] at g67; simp [g67]), rfl, rfl⟩
    rintro l h' ⟨b, hb67, rfl, rfl⟩
    refine hK12 _ _ ?_; clear hK12
    refine V_condb rfl (fun c67 => ?_) (fun c67 => ?_)
    · replace c67 := hb67.1 c67
      refine V_sr T.mix (by kernel_rfl) (fun K14 hK14 => ?_)
      refine S_as rfl ?_
      refine S_as rfl ?_
      refine S_nil (hK14 _ _ (V_keep [2, 3] (by simp only [proj, lk, reduceIte, Nat.reduceEqDiff]; rfl) ?_)); clear hK14
      refine V_ret ?_
      refine hR _ _ (ret2 rfl rfl rfl ?_)
      exact ⟨hE, .inl ⟨⟨v, hv1, by omega, c67.1, c67.2⟩, rfl⟩⟩
    · replace c67 : ¬ _ := fun hp => Bool.false_ne_true (c67.symm.trans (hb67.2 hp))
      refine V_skipk [0, 4, 5, 6, 7] (by simp only [proj, lk, reduceIte, Nat.reduceEqDiff]; rfl) ?_
      refine hK11 _ _ ?_; clear hK11
      refine V_seqJ (fun l h' => ∃ (hj : Heap) (aj : Option Addr) (cj : Nat) (zs : List Int), (zs = ys ++ (if (v : Int) ∈ xs then [(v : Int)] else [])) ∧ (OwnR h.size hj aj zs.length cj (ints zs) 3 1) ∧ (Ext (fun _ => False) h hj) ∧ (zs.length ≤ 25) ∧ l = [(0, .slice a xs.length cap), (4, .slice aj zs.length cj), (5, .int .i64 v), (7, .bool (decide (-(v : Int) ∈ xs)))] ∧ hj = h') ?_ ?_
      · skip
        refine V_sr T.mix (by kernel_rfl) (fun K16 hK16 => ?_)
        refine S_mv rfl ?_
        refine S_nil (hK16 _ _ (V_keep [0, 4, 5, 7, 23] (by simp only [proj, lk, reduceIte, Nat.reduceEqDiff]; rfl) ?_)); clear hK16
        refine V_condp rfl (fun c70 => ?_) (fun c70 => ?_)
        · skip
          refine V_reg T.mix (by kernel_rfl) ?_
          refine S_mv rfl ?_
          refine S_mv rfl ?_
          refine S_bs T.ei49 rfl (by decide) (by decide) (T.bs49_1_0 _) ?_
          refine S_appx T.ei49 T.ni49 T.us49 rfl rfl rfl (OwnR.ext hon (Ext.push (fun _ => False) _ _) (fun _ _ f => f)) (by have := hE.1; simp; omega) (cellsH_new _ _ _) rfl (by omega) (by decide) (by decide) rfl (fun a1 cap1 h1 ho1 hE1 hb1 => ?_)
          have hE9 : Ext (fun _ => False) h h1 := (hE.pushn _).step hE1 (fun b hb e => by have := OwnR.blk2 hon e; omega)
          clear hE hb1 hE1
          refine S_as rfl ?_
          refine S_nilk [0, 4, 5, 7] (by simp only [proj, lk, reduceIte, Nat.reduceEqDiff]; rfl) ?_
          exact ⟨h1, a1, cap1, ys ++ [(v : Int)], by rw [if_pos c70], by rw [ints_snoc]; simpa using ho1, hE9, by simp; omega, by simp, rfl⟩
        · skip
          refine V_skipk [0, 4, 5, 7] (by simp only [proj, lk, reduceIte, Nat.reduceEqDiff]; rfl) ?_
          exact ⟨hk, ak, ck, ys, by rw [if_neg c70]; simp, hon, hE, by omega, rfl, rfl⟩
      rintro l h' ⟨hj, aj, cj, zs, hzs, hon, hE, hzl, rfl, rfl⟩
      have hnt2 : ∀ u : Nat, 1 ≤ u → u < v + 1 → ¬ ((u : Int) ∈ xs ∧ -(u : Int) ∈ xs) := fun u h1 h2 => by by_cases e : u = v; (subst e; exact c67); (exact hnt u h1 (by omega))
      refine V_sr T.mix (by kernel_rfl) (fun K17 hK17 => ?_)
      refine S_mv rfl ?_
      refine S_nil (hK17 _ _ (V_keep [0, 4, 5, 28] (by simp only [proj, lk, reduceIte, Nat.reduceEqDiff]; rfl) ?_)); clear hK17
      refine V_condp rfl (fun c73 => ?_) (fun c73 => ?_)
      · skip
        refine V_reg T.mix (by kernel_rfl) ?_
        refine S_mv rfl ?_
        refine S_mv rfl ?_
        first | refine S_neg rfl (by omega) (by omega) ?_ | refine S_un rfl rfl ?_
        refine S_bs T.ei49 rfl (by decide) (by decide) (T.bs49_1_0 _) ?_
        refine S_appx T.ei49 T.ni49 T.us49 rfl rfl rfl (OwnR.ext hon (Ext.push (fun _ => False) _ _) (fun _ _ f => f)) (by have := hE.1; simp; omega) (cellsH_new _ _ _) rfl (by omega) (by decide) (by decide) rfl (fun a1 cap1 h1 ho1 hE1 hb1 => ?_)
        have hE9 : Ext (fun _ => False) h h1 := (hE.pushn _).step hE1 (fun b hb e => by have := OwnR.blk2 hon e; omega)
        clear hE hb1 hE1
        refine S_as rfl ?_
        refine S_nilk [0, 4, 5] (by simp only [proj, lk, reduceIte, Nat.reduceEqDiff]; rfl) ?_
        refine hK8 _ _ ?_; clear hK8
        refine V_reg T.mix (by kernel_rfl) ?_
        refine S_mv rfl ?_
        first | refine S_add rfl rfl (by omega) (by omega) ?_ | refine S_bin rfl rfl rfl ?_
        refine S_as rfl ?_
        refine S_nilk [0, 4, 5] (by simp only [proj, lk, reduceIte, Nat.reduceEqDiff]; rfl) ?_
        exact hK5 _ _ ⟨_, by omega, v + 1, h1, a1, cap1, zs ++ [-(v : Int)], by omega, by omega, by rw [nrm_step _ hv1, hzs, hys, if_pos c73]; simp, by rw [ints_snoc]; simpa using ho1, hE9, hnt2, rfl, by simp, rfl⟩
      · skip
        refine V_skipk [0, 4, 5] (by simp only [proj, lk, reduceIte, Nat.reduceEqDiff]; rfl) ?_
        refine hK8 _ _ ?_; clear hK8
        refine V_reg T.mix (by kernel_rfl) ?_
        refine S_mv rfl ?_
        first | refine S_add rfl rfl (by omega) (by omega) ?_ | refine S_bin rfl rfl rfl ?_
        refine S_as rfl ?_
        refine S_nilk [0, 4, 5] (by simp only [proj, lk, reduceIte, Nat.reduceEqDiff]; rfl) ?_
        exact hK5 _ _ ⟨_, by omega, v + 1, hj, aj, cj, zs, by omega, by omega, by rw [nrm_step _ hv1, hzs, hys, if_neg c73]; simp, hon, hE, hnt2, rfl, rfl, rfl⟩
  · skip
    refine V_exitk [4] rfl (by simp only [proj, lk, reduceIte, Nat.reduceEqDiff]; rfl) ?_
    refine hK3 _ _ ?_; clear hK3
    refine V_sr T.mix (by kernel_rfl) (fun K18 hK18 => ?_)
    refine S_mv rfl ?_
    refine S_as rfl ?_
    refine S_as rfl ?_
    refine S_nil (hK18 _ _ (V_keep [2, 3] (by simp only [proj, lk, reduceIte, Nat.reduceEqDiff]; rfl) ?_)); clear hK18
    refine V_ret ?_
    refine hR _ _ (ret2 rfl rfl rfl ?_)
    have hv13 : v = 13 := by omega
    subst hv13
    rw [show 13 - 1 = 12 from rfl] at hys
    rw [hys] at hon ⊢
    exact ⟨hE, .inr ⟨fun ⟨u, u1, u2, u3, u4⟩ => hnt u u1 (by omega) ⟨u3, u4⟩, ak, ck, rfl, hon⟩⟩
set_option maxHeartbeats 400000 in
theorem mnumber_spec (h : Heap) (s : ByteArray) (a z : Nat) (hab : a < z) (hb : z ≤ s.size) (hs : s.size ≤ 1048576) :
    FC Tryz.prog 109 (#[.string s, .int .i64 a, .int .i64 z] : Array Value) h fun v h' => (∃ r neg e loc, v = .tuple #[.int .i64 (r : Nat), .bool neg, .int .i64 (e : Nat), .int .i64 (loc : Nat)] ∧ NumR (bx s) a z r neg e loc) ∧ h = h' := by
  refine FC_of [(0, .string s), (1, .int .i64 a), (2, .int .i64 z)] Tryz.func109 rfl Tryz.ntmps109 (by simp) rfl (fun R hR => ?_)
  refine V_sr T.mix (by kernel_rfl) (fun K1 hK1 => ?_)
  refine S_as rfl ?_
  refine S_as rfl ?_
  refine S_as rfl ?_
  refine S_as rfl ?_
  refine S_nil (hK1 _ _ (V_keep [0, 1, 2] (by simp only [proj, lk, reduceIte, Nat.reduceEqDiff]; rfl) ?_)); clear hK1
  refine V_sr T.mix (by kernel_rfl) (fun K2 hK2 => ?_)
  refine S_mv rfl ?_
  refine S_as rfl ?_
  refine S_nil (hK2 _ _ (V_keep [0, 1, 2, 10] (by simp only [proj, lk, reduceIte, Nat.reduceEqDiff]; rfl) ?_)); clear hK2
  refine V_sr T.mix (by kernel_rfl) (fun K3 hK3 => ?_)
  refine S_mv rfl ?_
  refine S_mv rfl ?_
  refine S_si T.kd9 rfl rfl (by omega) (by omega) ?_
  rw [show (a : Int).toNat = a by omega, bx_at (by omega)]
  refine S_bin rfl rfl rfl ?_
  refine S_as rfl ?_
  refine S_nil (hK3 _ _ (V_keep [0, 1, 2, 10, 11] (by simp only [proj, lk, reduceIte, Nat.reduceEqDiff]; rfl) ?_)); clear hK3
  refine V_seqJ (fun l h' => ∃ (i0 : Nat), (i0 = if bx s a = 45 then a + 1 else a) ∧ (a ≤ i0 ∧ i0 ≤ a + 1) ∧ l = [(0, .string s), (1, .int .i64 a), (2, .int .i64 z), (10, .int .i64 i0), (11, .bool (decide ((bx s a : Int) = 45)))] ∧ h = h') ?_ ?_
  · skip
    refine V_sr T.mix (by kernel_rfl) (fun K5 hK5 => ?_)
    refine S_mv rfl ?_
    refine S_nil (hK5 _ _ (V_keep [0, 1, 2, 10, 11, 20] (by simp only [proj, lk, reduceIte, Nat.reduceEqDiff]; rfl) ?_)); clear hK5
    refine V_condp rfl (fun c24 => ?_) (fun c24 => ?_)
    · skip
      refine V_reg T.mix (by kernel_rfl) ?_
      refine S_mv rfl ?_
      first | refine S_add rfl rfl (by omega) (by omega) ?_ | refine S_bin rfl rfl rfl ?_
      refine S_as rfl ?_
      refine S_nilk [0, 1, 2, 10, 11] (by simp only [proj, lk, reduceIte, Nat.reduceEqDiff]; rfl) ?_
      exact ⟨a + 1, by rw [if_pos (by omega)], by omega, by simp, rfl⟩
    · skip
      refine V_skipk [0, 1, 2, 10, 11] (by simp only [proj, lk, reduceIte, Nat.reduceEqDiff]; rfl) ?_
      exact ⟨a, by rw [if_neg (by omega)], by omega, rfl, rfl⟩
  rintro l h' ⟨i0, hi0, hi1, rfl, rfl⟩
  refine V_seq (fun K6 hK6 => ?_)
  refine V_sr T.mix (by kernel_rfl) (fun K7 hK7 => ?_)
  refine S_mv rfl ?_
  refine S_as rfl ?_
  refine S_nil (hK7 _ _ (V_keep [0, 1, 2, 10, 11, 12] (by simp only [proj, lk, reduceIte, Nat.reduceEqDiff]; rfl) ?_)); clear hK7
  refine V_block ?_
  refine V_loop (fun m l h' => ∃ (k : Nat), (i0 ≤ k) ∧ (k ≤ z) ∧ (∀ m, i0 ≤ m → m < k → dig (bx s m)) ∧ m = z - k ∧ l = [(0, .string s), (1, .int .i64 a), (2, .int .i64 z), (10, .int .i64 i0), (11, .bool (decide ((bx s a : Int) = 45))), (12, .int .i64 k)] ∧ h = h') _ ⟨i0, by omega, by omega, fun m h1 h2 => by omega, rfl, rfl, rfl⟩ ?_
  rintro m l h' ⟨k, hk1, hk2, hdg, rfl, rfl, rfl⟩ K8 hK8
  refine V_seq (fun K9 hK9 => ?_)
  refine V_sr T.mix (by kernel_rfl) (fun K10 hK10 => ?_)
  refine S_mv rfl ?_
  refine S_mv rfl ?_
  refine S_bin rfl rfl rfl ?_
  refine S_nil (hK10 _ _ (V_keep [0, 1, 2, 10, 11, 12, 26] (by simp only [proj, lk, reduceIte, Nat.reduceEqDiff]; rfl) ?_)); clear hK10
  refine V_condp rfl (fun c27 => ?_) (fun c27 => ?_)
  · skip
    refine V_skipk [0, 1, 2, 10, 11, 12] (by simp only [proj, lk, reduceIte, Nat.reduceEqDiff]; rfl) ?_
    refine hK9 _ _ ?_; clear hK9
    refine V_seq (fun K11 hK11 => ?_)
    refine V_block ?_
    refine V_sr T.mix (by kernel_rfl) (fun K12 hK12 => ?_)
    refine S_cut (K' := fun l h' => ∃ b : Bool, (b = true ↔ (¬ dig (bx s k))) ∧ l = [(0, .string s), (1, .int .i64 a), (2, .int .i64 z), (10, .int .i64 i0), (11, .bool (decide ((bx s a : Int) = 45))), (12, .int .i64 k), (38, .bool b)] ∧ h = h') ?_ ?_
    · skip
      refine S_mv rfl ?_
      refine S_mv rfl ?_
      refine S_si T.kd9 rfl rfl (by omega) (by omega) ?_
      rw [show (k : Int).toNat = k by omega, bx_at (by omega)]
      refine S_bin rfl rfl rfl ?_
      refine S_mv rfl ?_
      refine S_dec (fun g28 => ?_) (fun g28 => ?_)
      · skip
        refine S_gf rfl ?_
        refine S_gf rfl ?_
        refine S_gf rfl ?_
        refine S_gf rfl ?_
        refine S_pt rfl rfl ?_
        exact S_nilk [0, 1, 2, 10, 11, 12, 38] (by simp only [proj, lk, reduceIte, Nat.reduceEqDiff]; rfl) ⟨_, (by unfold dig; first | (simp; omega) | (simp only [decide_eq_true_eq, true_iff, Bool.false_eq_true, false_iff]; omega)), rfl, rfl⟩
      · skip
        refine S_gt rfl ?_
        refine S_mv rfl ?_
        refine S_gt rfl ?_
        refine S_mv rfl ?_
        refine S_gt rfl ?_
        refine S_si T.kd9 rfl rfl (by omega) (by omega) ?_
        rw [show (k : Int).toNat = k by omega, bx_at (by omega)]
        refine S_gt rfl ?_
        refine S_bin rfl rfl rfl ?_
        refine S_pf rfl rfl ?_
        exact S_nilk [0, 1, 2, 10, 11, 12, 38] (by simp only [proj, lk, reduceIte, Nat.reduceEqDiff]; rfl) ⟨_, (by unfold dig; first | (simp; omega) | (simp only [decide_eq_true_eq, true_iff, Bool.false_eq_true, false_iff]; omega)), rfl, rfl⟩
    rintro l h' ⟨b, hb28, rfl, rfl⟩
    refine hK12 _ _ ?_; clear hK12
    refine V_condb rfl (fun c28 => ?_) (fun c28 => ?_)
    · replace c28 := hb28.1 c28
      refine V_sr T.mix (by kernel_rfl) (fun K14 hK14 => ?_)
      refine S_mv rfl ?_
      refine S_as rfl ?_
      refine S_as rfl ?_
      refine S_as rfl ?_
      refine S_as rfl ?_
      refine S_nil (hK14 _ _ (V_keep [6, 7, 8, 9] (by simp only [proj, lk, reduceIte, Nat.reduceEqDiff]; rfl) ?_)); clear hK14
      refine V_ret ?_
      refine hR _ _ (ret4 rfl rfl rfl rfl rfl ?_)
      refine ⟨⟨0, false, 2, k, rfl, ?_⟩, rfl⟩
      refine numR_mk hi0 ?_
      exact .inl ⟨k, hk1, by omega, hdg, c28, rfl, rfl, rfl, rfl⟩
    · replace c28 : ¬ _ := fun hp => Bool.false_ne_true (c28.symm.trans (hb28.2 hp))
      refine V_skipk [0, 1, 2, 10, 11, 12] (by simp only [proj, lk, reduceIte, Nat.reduceEqDiff]; rfl) ?_
      refine hK11 _ _ ?_; clear hK11
      refine V_reg T.mix (by kernel_rfl) ?_
      refine S_mv rfl ?_
      first | refine S_add rfl rfl (by omega) (by omega) ?_ | refine S_bin rfl rfl rfl ?_
      refine S_as rfl ?_
      refine S_nilk [0, 1, 2, 10, 11, 12] (by simp only [proj, lk, reduceIte, Nat.reduceEqDiff]; rfl) ?_
      exact hK8 _ _ ⟨_, by omega, k + 1, by omega, by omega, fun m h1 h2 => by by_cases e : m = k; (subst e; exact Classical.not_not.1 c28); (exact hdg m h1 (by omega)), rfl, rfl, rfl⟩
  · skip
    have hdz : ∀ m, i0 ≤ m → m < z → dig (bx s m) := fun m h1 h2 => hdg m h1 (by omega)
    refine V_exitk [0, 1, 2, 10, 11] rfl (by simp only [proj, lk, reduceIte, Nat.reduceEqDiff]; rfl) ?_
    refine hK6 _ _ ?_; clear hK6
    refine V_seq (fun K15 hK15 => ?_)
    refine V_sr T.mix (by kernel_rfl) (fun K16 hK16 => ?_)
    refine S_mv rfl ?_
    refine S_mv rfl ?_
    refine S_bin rfl rfl rfl ?_
    refine S_nil (hK16 _ _ (V_keep [0, 1, 2, 10, 11, 42] (by simp only [proj, lk, reduceIte, Nat.reduceEqDiff]; rfl) ?_)); clear hK16
    refine V_condp rfl (fun c32 => ?_) (fun c32 => ?_)
    · skip
      refine V_sr T.mix (by kernel_rfl) (fun K17 hK17 => ?_)
      refine S_mv rfl ?_
      refine S_as rfl ?_
      refine S_as rfl ?_
      refine S_as rfl ?_
      refine S_as rfl ?_
      refine S_nil (hK17 _ _ (V_keep [6, 7, 8, 9] (by simp only [proj, lk, reduceIte, Nat.reduceEqDiff]; rfl) ?_)); clear hK17
      refine V_ret ?_
      refine hR _ _ (ret4 rfl rfl rfl rfl rfl ?_)
      refine ⟨⟨0, false, 3, a, rfl, ?_⟩, rfl⟩
      refine numR_mk hi0 ?_
      exact .inr ⟨hdz, .inl ⟨by omega, rfl, rfl, rfl, rfl⟩⟩
    · skip
      refine V_skipk [0, 1, 2, 10, 11] (by simp only [proj, lk, reduceIte, Nat.reduceEqDiff]; rfl) ?_
      refine hK15 _ _ ?_; clear hK15
      refine V_sr T.mix (by kernel_rfl) (fun K18 hK18 => ?_)
      refine S_as rfl ?_
      refine S_nil (hK18 _ _ (V_keep [0, 1, 2, 10, 11, 13] (by simp only [proj, lk, reduceIte, Nat.reduceEqDiff]; rfl) ?_)); clear hK18
      refine V_seq (fun K19 hK19 => ?_)
      refine V_sr T.mix (by kernel_rfl) (fun K20 hK20 => ?_)
      refine S_mv rfl ?_
      refine S_as rfl ?_
      refine S_nil (hK20 _ _ (V_keep [0, 1, 2, 11, 13, 14] (by simp only [proj, lk, reduceIte, Nat.reduceEqDiff]; rfl) ?_)); clear hK20
      refine V_block ?_
      refine V_loop (fun m l h' => ∃ (k w : Nat), (i0 ≤ k) ∧ (k ≤ z) ∧ (w = valF (bx s) i0 (k - i0)) ∧ m = z - k ∧ l = [(0, .string s), (1, .int .i64 a), (2, .int .i64 z), (11, .bool (decide ((bx s a : Int) = 45))), (13, .int .i64 (w : Nat)), (14, .int .i64 k)] ∧ h = h') _ ⟨i0, 0, by omega, by omega, by rw [Nat.sub_self]; rfl, rfl, rfl, rfl⟩ ?_
      rintro m l h' ⟨k, w, hk1, hk2, hw, rfl, rfl, rfl⟩ K21 hK21
      refine V_seq (fun K22 hK22 => ?_)
      refine V_sr T.mix (by kernel_rfl) (fun K23 hK23 => ?_)
      refine S_mv rfl ?_
      refine S_mv rfl ?_
      refine S_bin rfl rfl rfl ?_
      refine S_nil (hK23 _ _ (V_keep [0, 1, 2, 11, 13, 14, 47] (by simp only [proj, lk, reduceIte, Nat.reduceEqDiff]; rfl) ?_)); clear hK23
      refine V_condp rfl (fun c36 => ?_) (fun c36 => ?_)
      · skip
        have hvl := valF_le (bx s) i0 (k - i0)
        rw [← hw] at hvl
        refine V_skipk [0, 1, 2, 11, 13, 14] (by simp only [proj, lk, reduceIte, Nat.reduceEqDiff]; rfl) ?_
        refine hK22 _ _ ?_; clear hK22
        refine V_seq (fun K24 hK24 => ?_)
        refine V_block ?_
        refine V_sr T.mix (by kernel_rfl) (fun K25 hK25 => ?_)
        refine S_mv rfl ?_
        refine S_mul rfl rfl (by omega) (by omega) ?_
        refine S_mv rfl ?_
        refine S_mv rfl ?_
        refine S_si T.kd9 rfl rfl (by omega) (by omega) ?_
        rw [show (k : Int).toNat = k by omega, bx_at (by omega)]
        refine S_bin rfl rfl rfl ?_
        have hdk : 48 ≤ bx s k ∧ bx s k ≤ 57 := hdz k (by omega) (by omega)
        rw [wrap_u8 (by omega) (by omega), show ((bx s k : Int) - 48) = ((bx s k - 48 : Nat) : Int) by omega]
        first | refine S_cvi T.us5 T.in3 rfl (by omega) (by omega) ?_ | refine S_cv T.us5 T.in3 rfl ?_
        refine S_add rfl rfl (by omega) (by omega) ?_
        rw [show (w : Int) * 10 + ((bx s k - 48 : Nat) : Int) = ((w * 10 + (bx s k - 48) : Nat) : Int) by omega]
        refine S_as rfl ?_
        refine S_nil (hK25 _ _ (V_keep [0, 1, 2, 11, 13, 14] (by simp only [proj, lk, reduceIte, Nat.reduceEqDiff]; rfl) ?_)); clear hK25
        refine V_sr T.mix (by kernel_rfl) (fun K26 hK26 => ?_)
        refine S_mv rfl ?_
        refine S_bin rfl rfl rfl ?_
        refine S_nil (hK26 _ _ (V_keep [0, 1, 2, 11, 13, 14, 59] (by simp only [proj, lk, reduceIte, Nat.reduceEqDiff]; rfl) ?_)); clear hK26
        refine V_condp rfl (fun c38 => ?_) (fun c38 => ?_)
        · skip
          refine V_reg T.mix (by kernel_rfl) ?_
          refine S_as rfl ?_
          refine S_nilk [0, 1, 2, 11, 13, 14] (by simp only [proj, lk, reduceIte, Nat.reduceEqDiff]; rfl) ?_
          refine hK24 _ _ ?_; clear hK24
          refine V_reg T.mix (by kernel_rfl) ?_
          refine S_mv rfl ?_
          first | refine S_add rfl rfl (by omega) (by omega) ?_ | refine S_bin rfl rfl rfl ?_
          refine S_as rfl ?_
          refine S_nilk [0, 1, 2, 11, 13, 14] (by simp only [proj, lk, reduceIte, Nat.reduceEqDiff]; rfl) ?_
          exact hK21 _ _ ⟨_, by omega, k + 1, 13, by omega, by omega, by rw [show k + 1 - i0 = (k - i0) + 1 by omega]; simp only [valF, satF]; rw [show i0 + (k - i0) = k by omega, ← hw, if_pos (by omega)], rfl, by simp, rfl⟩
        · skip
          refine V_skipk [0, 1, 2, 11, 13, 14] (by simp only [proj, lk, reduceIte, Nat.reduceEqDiff]; rfl) ?_
          refine hK24 _ _ ?_; clear hK24
          refine V_reg T.mix (by kernel_rfl) ?_
          refine S_mv rfl ?_
          first | refine S_add rfl rfl (by omega) (by omega) ?_ | refine S_bin rfl rfl rfl ?_
          refine S_as rfl ?_
          refine S_nilk [0, 1, 2, 11, 13, 14] (by simp only [proj, lk, reduceIte, Nat.reduceEqDiff]; rfl) ?_
          exact hK21 _ _ ⟨_, by omega, k + 1, w * 10 + (bx s k - 48), by omega, by omega, by rw [show k + 1 - i0 = (k - i0) + 1 by omega]; simp only [valF, satF]; rw [show i0 + (k - i0) = k by omega, ← hw, if_neg (by omega)], rfl, rfl, rfl⟩
      · skip
        have hkb : k = z := by omega
        rw [hkb] at hw
        subst hw
        refine V_exitk [1, 11, 13] rfl (by simp only [proj, lk, reduceIte, Nat.reduceEqDiff]; rfl) ?_
        refine hK19 _ _ ?_; clear hK19
        refine V_seq (fun K27 hK27 => ?_)
        refine V_sr T.mix (by kernel_rfl) (fun K28 hK28 => ?_)
        refine S_cut (K' := fun l h' => ∃ b : Bool, (b = true ↔ (valF (bx s) i0 (z - i0) = 0 ∧ bx s a = 45)) ∧ l = [(1, .int .i64 a), (11, .bool (decide ((bx s a : Int) = 45))), (13, .int .i64 (valF (bx s) i0 (z - i0) : Nat)), (64, .bool b)] ∧ h = h') ?_ ?_
        · skip
          refine S_mv rfl ?_
          refine S_bin rfl rfl rfl ?_
          refine S_mv rfl ?_
          refine S_dec (fun g42 => ?_) (fun g42 => ?_)
          · skip
            refine S_gt rfl ?_
            refine S_mv rfl ?_
            refine S_pt rfl rfl ?_
            exact S_nilk [1, 11, 13, 64] (by simp only [proj, lk, reduceIte, Nat.reduceEqDiff]; rfl) ⟨_, (by first | (simp [*]; done) | (simp; omega)), rfl, rfl⟩
          · skip
            refine S_gf rfl ?_
            refine S_pf rfl rfl ?_
            exact S_nilk [1, 11, 13, 64] (by simp only [proj, lk, reduceIte, Nat.reduceEqDiff]; rfl) ⟨_, (by first | (simp [*]; done) | (simp; omega)), rfl, rfl⟩
        rintro l h' ⟨b, hb42, rfl, rfl⟩
        refine hK28 _ _ ?_; clear hK28
        refine V_condb rfl (fun c42 => ?_) (fun c42 => ?_)
        · replace c42 := hb42.1 c42
          refine V_sr T.mix (by kernel_rfl) (fun K30 hK30 => ?_)
          refine S_mv rfl ?_
          refine S_as rfl ?_
          refine S_as rfl ?_
          refine S_as rfl ?_
          refine S_as rfl ?_
          refine S_nil (hK30 _ _ (V_keep [6, 7, 8, 9] (by simp only [proj, lk, reduceIte, Nat.reduceEqDiff]; rfl) ?_)); clear hK30
          refine V_ret ?_
          refine hR _ _ (ret4 rfl rfl rfl rfl rfl ?_)
          refine ⟨⟨0, false, 3, a, rfl, ?_⟩, rfl⟩
          refine numR_mk hi0 ?_
          exact .inr ⟨hdz, .inr ⟨by omega, .inl ⟨c42.1, by simp [c42.2], rfl, rfl, rfl, rfl⟩⟩⟩
        · replace c42 : ¬ _ := fun hp => Bool.false_ne_true (c42.symm.trans (hb42.2 hp))
          refine V_skipk [1, 11, 13] (by simp only [proj, lk, reduceIte, Nat.reduceEqDiff]; rfl) ?_
          refine hK27 _ _ ?_; clear hK27
          refine V_seq (fun K31 hK31 => ?_)
          refine V_sr T.mix (by kernel_rfl) (fun K32 hK32 => ?_)
          refine S_mv rfl ?_
          refine S_bin rfl rfl rfl ?_
          refine S_nil (hK32 _ _ (V_keep [1, 11, 13, 67] (by simp only [proj, lk, reduceIte, Nat.reduceEqDiff]; rfl) ?_)); clear hK32
          refine V_condp rfl (fun c45 => ?_) (fun c45 => ?_)
          · skip
            refine V_sr T.mix (by kernel_rfl) (fun K33 hK33 => ?_)
            refine S_mv rfl ?_
            refine S_as rfl ?_
            refine S_as rfl ?_
            refine S_as rfl ?_
            refine S_as rfl ?_
            refine S_nil (hK33 _ _ (V_keep [6, 7, 8, 9] (by simp only [proj, lk, reduceIte, Nat.reduceEqDiff]; rfl) ?_)); clear hK33
            refine V_ret ?_
            refine hR _ _ (ret4 rfl rfl rfl rfl rfl ?_)
            refine ⟨⟨0, false, 4, a, rfl, ?_⟩, rfl⟩
            refine numR_mk hi0 ?_
            exact .inr ⟨hdz, .inr ⟨by omega, .inr (.inl ⟨by simpa using c42, by omega, rfl, rfl, rfl, rfl⟩)⟩⟩
          · skip
            refine V_skipk [11, 13] (by simp only [proj, lk, reduceIte, Nat.reduceEqDiff]; rfl) ?_
            refine hK31 _ _ ?_; clear hK31
            refine V_sr T.mix (by kernel_rfl) (fun K34 hK34 => ?_)
            refine S_mv rfl ?_
            refine S_mv rfl ?_
            refine S_as rfl ?_
            refine S_as rfl ?_
            refine S_as rfl ?_
            refine S_as rfl ?_
            refine S_nil (hK34 _ _ (V_keep [6, 7, 8, 9] (by simp only [proj, lk, reduceIte, Nat.reduceEqDiff]; rfl) ?_)); clear hK34
            refine V_ret ?_
            refine hR _ _ (ret4 rfl rfl rfl rfl rfl ?_)
            refine ⟨⟨valF (bx s) i0 (z - i0), decide (bx s a = 45), 0, 0, ?_, ?_⟩, rfl⟩
            · rw [show decide ((bx s a : Int) = 45) = decide (bx s a = 45) from decide_eq_decide.2 (by omega)]; rfl
            refine numR_mk hi0 ?_
            exact .inr ⟨hdz, .inr ⟨by omega, .inr (.inr ⟨by simpa using c42, by omega, rfl, rfl, rfl, rfl⟩)⟩⟩
end Go.Proofs.Qxb6500401aGreat.ChkW
