import Derived.Test.Qxb6500398aWp
set_option linter.unusedVariables false
set_option linter.unusedSimpArgs false
namespace Go.Proofs.Qxb6500398a
open Go.Eng Go.Cnf Go.Chk

theorem retct {P : Program} {fn : Func} {Rel : Value → Heap → Prop} {l : Fr} {h : Heap} {c u b n : Nat} {ty t : TypeId} {cs : Array Value} {w : Value} (hr : fn.results = #[.tmp u, .cell c ty]) (hw : E l u = some w) (hv : E l c = some (.pointer (some ⟨b, 0, none⟩))) (ha : agS P ty = some (some n)) (hb : B h b cs t) (hn : n = cs.size) (hR : Rel (.tuple #[w, .agg cs]) h) : retK P fn Rel l h :=
  ⟨[w, .agg cs], by rw [hr]; simp only [resV, hv, hw, loadV, ha, hb.all hn, Option.map_some]; try rfl, hR⟩
def Shp (e w p : Nat) (s t : ByteArray) : Prop := (e = 0 → w = 0 ∧ p = 0) ∧ (e ≠ 0 → (w = 0 ∧ p ≤ s.size) ∨ (w = 1 ∧ p ≤ t.size) ∨ (w = 2 ∧ (e = 18 ∨ e = 12 ∨ e = 19 ∨ e = 20)))
theorem chk_shape (s t : ByteArray) : Shp (chkF s t).1 (chkF s t).2.1 (chkF s t).2.2 s t := by
  unfold chkF
  split
  · rename_i h; exact ⟨fun e => absurd e h, fun _ => .inl ⟨rfl, (parseF_err h).1⟩⟩
  · split
    · rename_i h; exact ⟨fun e => absurd e h, fun _ => .inl ⟨rfl, Nat.zero_le _⟩⟩
    · split
      · rename_i h; exact ⟨fun e => absurd e h, fun _ => .inr (.inl ⟨rfl, (parseF_err h).1⟩)⟩
      · generalize hS : (rowsOf (parseF s).2.2).map (·.2) = S
        generalize rowsOf (parseF t).2.2 = rs
        refine ⟨fun e => ⟨by simp only [] at e ⊢; rw [if_pos e], fol_ok rs S 0 e⟩, fun e => .inr (.inr ⟨by simp only [] at e ⊢; rw [if_neg e], ?_⟩)⟩
        have := fol_err rs S 0
        simp only [] at e ⊢
        omega
theorem chk_sound {s t : ByteArray} (h : (chkF s t).1 = 0) : prE s = 0 ∧ ∀ m, m < 4096 → ¬ sat ((rowsOf (parseF s).2.2).map (·.2)) m := by
  have h0 : prE s = 0 := by
    by_cases e : prE s = 0
    · exact e
    · rw [chk1 e] at h; exact absurd h e
  refine ⟨h0, fun m hm hs => ?_⟩
  have h3 : (parseF t).1 = 0 := by
    by_cases e : (parseF t).1 = 0
    · exact e
    · rw [chk2 h0 e] at h; exact absurd h e
  have hr := prob_rows h0
  have := fol_sound (rowsOf (parseF t).2.2) ((rowsOf (parseF s).2.2).map (·.2)) 0 m (rowsOf_ok (parseF_ok h3).2).2 hr.1 hs
  rw [chk3 h0 h3 (e := (fol (rowsOf (parseF t).2.2) ((rowsOf (parseF s).2.2).map (·.2)) 0).1) (p := (fol (rowsOf (parseF t).2.2) ((rowsOf (parseF s).2.2).map (·.2)) 0).2) rfl] at h
  exact this h
set_option maxHeartbeats 400000 in
theorem mark_spec (h : Heap) (X : Nat) :
    FC Try.prog 20 (#[.agg #[.pointer (some ⟨X, 0, none⟩)]] : Array Value) h fun rv h' => rv = .tuple #[] ∧ Ext (fun _ => False) h h' := by
  refine FC_of [(0, .agg #[.pointer (some ⟨X, 0, none⟩)])] Try.func20 rfl Try.ntmps20 (by simp) rfl (fun R hR => ?_)
  refine V_reg T.mix (by kernel_rfl) ?_
  refine S_boxA rfl ?_
  refine S_nilk [] (by simp only [proj, lk, reduceIte, Nat.reduceEqDiff]; rfl) ?_
  -- end
  refine hR _ _ (ret0 rfl ?_)
  exact ⟨rfl, Ext.push _ _ _⟩
set_option maxHeartbeats 400000 in
theorem asked_spec (h : Heap) (X : Nat) :
    FC Try.prog 39 (#[.agg #[.pointer (some ⟨X, 0, none⟩)]] : Array Value) h fun rv h' => rv = .tuple #[.int .i64 (-1), .int .i64 (-1)] ∧ Ext (fun _ => False) h h' := by
  refine FC_of [(0, .agg #[.pointer (some ⟨X, 0, none⟩)])] Try.func39 rfl Try.ntmps39 (by simp) rfl (fun R hR => ?_)
  refine V_sr T.mix (by kernel_rfl) (fun K1 hK1 => ?_)
  refine S_boxA rfl ?_
  refine S_as rfl ?_
  refine S_as rfl ?_
  refine S_nil (hK1 _ _ (V_keep [] (by simp only [proj, lk, reduceIte, Nat.reduceEqDiff]; rfl) ?_)); clear hK1
  refine V_sr T.mix (by kernel_rfl) (fun K2 hK2 => ?_)
  refine S_as rfl ?_
  refine S_as rfl ?_
  refine S_nil (hK2 _ _ (V_keep [2, 3] (by simp only [proj, lk, reduceIte, Nat.reduceEqDiff]; rfl) ?_)); clear hK2
  refine V_ret ?_
  refine hR _ _ (ret2 rfl rfl rfl ?_)
  exact ⟨rfl, Ext.push _ _ _⟩
set_option maxHeartbeats 400000 in
theorem handed_spec (h : Heap) (X : Nat) (e w p : Int) :
    FC Try.prog 24 (#[.agg #[.pointer (some ⟨X, 0, none⟩)], .agg #[.int .i64 (e), .int .i64 (w), .int .i64 (p)]] : Array Value) h fun rv h' => rv = .bool true ∧ Ext (fun _ => False) h h' := by
  refine FC_of [(0, .agg #[.pointer (some ⟨X, 0, none⟩)]), (1, .agg #[.int .i64 (e), .int .i64 (w), .int .i64 (p)])] Try.func24 rfl Try.ntmps24 (by simp) rfl (fun R hR => ?_)
  refine V_sr T.mix (by kernel_rfl) (fun K1 hK1 => ?_)
  refine S_boxA rfl ?_
  generalize hh : Array.push h _ = h1
  have hX1 : B h1 h.size #[.pointer (some ⟨X, 0, none⟩)] 29 := by rw [← hh]; exact B.new _ _ _
  have hEh1 : Ext (fun _ => False) h h1 := by rw [← hh]; exact Ext.push _ _ _
  have hsh1 : h1.size = h.size + 1 := by rw [← hh]; simp
  clear hh
  refine S_boxA rfl ?_
  generalize hh : Array.push h1 _ = h2
  have hV2 : B h2 h1.size #[.int .i64 (e), .int .i64 (w), .int .i64 (p)] 55 := by rw [← hh]; exact B.new _ _ _
  have hEh2 : Ext (fun _ => False) h1 h2 := by rw [← hh]; exact Ext.push _ _ _
  have hsh2 : h2.size = h1.size + 1 := by rw [← hh]; simp
  clear hh
  have hX2 := hX1.ext hEh2 (fun f => f)
  have x0 : cellH h2 ⟨h.size, 0, none⟩ = some (.pointer (some ⟨X, 0, none⟩)) := hX2.cell 0
  refine S_as rfl ?_
  refine S_nil (hK1 _ _ (V_keep [2, 3] (by simp only [proj, lk, reduceIte, Nat.reduceEqDiff]; rfl) ?_)); clear hK1
  refine V_sr T.mix (by kernel_rfl) (fun K2 hK2 => ?_)
  refine S_ldnK T.ag29 rfl (fun K' hK' => ?_)
  simp (disch := omega) only [x0, oPs_cons, oPs_nil, oP_some, Nat.reduceAdd, Nat.add_zero]
  refine hK' _ ?_; clear hK' K'
  refine S_call T.hb39 rfl ?_
  refine FC.mono (asked_spec h2 X) ?_
  rintro v' h3 ⟨rfl, hE3⟩
  refine S_mv rfl ?_
  refine S_ex rfl rfl ?_
  refine S_ex rfl rfl ?_
  refine S_as rfl ?_
  refine S_as rfl ?_
  refine S_nil (hK2 _ _ (V_keep [3, 5, 6] (by simp only [proj, lk, reduceIte, Nat.reduceEqDiff]; rfl) ?_)); clear hK2
  refine V_seq (fun K3 hK3 => ?_)
  refine V_sr T.mix (by kernel_rfl) (fun K4 hK4 => ?_)
  refine S_mv rfl ?_
  refine S_bin rfl rfl rfl ?_
  refine S_nil (hK4 _ _ (V_keep [3, 5, 6, 13] (by simp only [proj, lk, reduceIte, Nat.reduceEqDiff]; rfl) ?_)); clear hK4
  refine V_condp rfl (fun c73 => ?_) (fun c73 => ?_)
  · skip
    refine V_sr T.mix (by kernel_rfl) (fun K5 hK5 => ?_)
    refine S_as rfl ?_
    refine S_nil (hK5 _ _ (V_keep [4] (by simp only [proj, lk, reduceIte, Nat.reduceEqDiff]; rfl) ?_)); clear hK5
    refine V_ret ?_
    refine hR _ _ (ret1 rfl rfl ?_)
    exact ⟨rfl, (hEh1.trans hEh2).trans hE3⟩
  · skip
    exact absurd (by omega) c73
set_option maxHeartbeats 400000 in
theorem sameverdict_spec (h : Heap) (e w p : Int) :
    FC Try.prog 23 (#[.agg #[.int .i64 (e), .int .i64 (w), .int .i64 (p)], .agg #[.int .i64 (e), .int .i64 (w), .int .i64 (p)]] : Array Value) h fun rv h' => rv = .bool true ∧ Ext (fun _ => False) h h' := by
  refine FC_of [(0, .agg #[.int .i64 (e), .int .i64 (w), .int .i64 (p)]), (1, .agg #[.int .i64 (e), .int .i64 (w), .int .i64 (p)])] Try.func23 rfl Try.ntmps23 (by simp) rfl (fun R hR => ?_)
  refine V_sr T.mix (by kernel_rfl) (fun K1 hK1 => ?_)
  refine S_boxA rfl ?_
  generalize hh : Array.push h _ = h1
  have hX1 : B h1 h.size #[.int .i64 (e), .int .i64 (w), .int .i64 (p)] 55 := by rw [← hh]; exact B.new _ _ _
  have hEh1 : Ext (fun _ => False) h h1 := by rw [← hh]; exact Ext.push _ _ _
  have hsh1 : h1.size = h.size + 1 := by rw [← hh]; simp
  clear hh
  refine S_boxA rfl ?_
  generalize hh : Array.push h1 _ = h2
  have hV2 : B h2 h1.size #[.int .i64 (e), .int .i64 (w), .int .i64 (p)] 55 := by rw [← hh]; exact B.new _ _ _
  have hEh2 : Ext (fun _ => False) h1 h2 := by rw [← hh]; exact Ext.push _ _ _
  have hsh2 : h2.size = h1.size + 1 := by rw [← hh]; simp
  clear hh
  obtain ⟨x0, x1, x2, xk⟩ := aq (hX1.ext hEh2 (fun f => f))
  obtain ⟨y0, y1, y2, yk⟩ := aq (hV2)
  refine S_as rfl ?_
  refine S_nil (hK1 _ _ (V_keep [2, 3] (by simp only [proj, lk, reduceIte, Nat.reduceEqDiff]; rfl) ?_)); clear hK1
  refine V_sr T.mix (by kernel_rfl) (fun K2 hK2 => ?_)
  first | refine S_fa0 T.f55_0 rfl ?_ | refine S_fa T.f55_0 rfl ?_
  refine S_ldK T.ag53 rfl (fun K' hK' => ?_)
  simp (disch := omega) only [x0, x1, x2, y0, y1, y2, oP_some, Nat.add_zero]
  refine hK' _ ?_; clear hK' K'
  first | refine S_fa0 T.f55_0 rfl ?_ | refine S_fa T.f55_0 rfl ?_
  refine S_ldK T.ag53 rfl (fun K' hK' => ?_)
  simp (disch := omega) only [x0, x1, x2, y0, y1, y2, oP_some, Nat.add_zero]
  refine hK' _ ?_; clear hK' K'
  refine S_bin rfl rfl rfl ?_
  refine S_mv rfl ?_
  refine S_dec (fun g35 => ?_) (fun g35 => ?_)
  · skip
    refine S_gt rfl ?_
    first | refine S_fa0 T.f55_1 rfl ?_ | refine S_fa T.f55_1 rfl ?_
    refine S_gt rfl ?_
    refine S_ldK T.ag3 rfl (fun K' hK' => ?_)
    simp (disch := omega) only [x0, x1, x2, y0, y1, y2, oP_some, Nat.add_zero]
    refine hK' _ ?_; clear hK' K'
    refine S_gt rfl ?_
    first | refine S_fa0 T.f55_1 rfl ?_ | refine S_fa T.f55_1 rfl ?_
    refine S_gt rfl ?_
    refine S_ldK T.ag3 rfl (fun K' hK' => ?_)
    simp (disch := omega) only [x0, x1, x2, y0, y1, y2, oP_some, Nat.add_zero]
    refine hK' _ ?_; clear hK' K'
    refine S_gt rfl ?_
    refine S_bin rfl rfl rfl ?_
    refine S_pt rfl rfl ?_
    refine S_mv rfl ?_
    refine S_dec (fun g35a => ?_) (fun g35a => ?_)
    · skip
      refine S_gt rfl ?_
      first | refine S_fa0 T.f55_2 rfl ?_ | refine S_fa T.f55_2 rfl ?_
      refine S_gt rfl ?_
      refine S_ldK T.ag3 rfl (fun K' hK' => ?_)
      simp (disch := omega) only [x0, x1, x2, y0, y1, y2, oP_some, Nat.add_zero]
      refine hK' _ ?_; clear hK' K'
      refine S_gt rfl ?_
      first | refine S_fa0 T.f55_2 rfl ?_ | refine S_fa T.f55_2 rfl ?_
      refine S_gt rfl ?_
      refine S_ldK T.ag3 rfl (fun K' hK' => ?_)
      simp (disch := omega) only [x0, x1, x2, y0, y1, y2, oP_some, Nat.add_zero]
      refine hK' _ ?_; clear hK' K'
      refine S_gt rfl ?_
      refine S_bin rfl rfl rfl ?_
      refine S_pt rfl rfl ?_
      refine S_as rfl ?_
      refine S_nil (hK2 _ _ (V_keep [4] (by simp only [proj, lk, reduceIte, Nat.reduceEqDiff]; rfl) ?_)); clear hK2
      refine V_ret ?_
      refine hR _ _ (ret1 rfl rfl ?_)
      exact ⟨by simp, hEh1.trans hEh2⟩
    · skip
      exact absurd rfl g35a
  · skip
    exact absurd rfl g35
set_option maxHeartbeats 400000 in
theorem shaped_spec (h : Heap) (e w p : Nat) (s t : ByteArray) (hsh : Shp e w p s t) :
    FC Try.prog 25 (#[.agg #[.int .i64 ((e : Int)), .int .i64 ((w : Int)), .int .i64 ((p : Int))], .string s, .string t] : Array Value) h fun rv h' => rv = .bool true ∧ Ext (fun _ => False) h h' := by
  obtain ⟨hs1, hs2⟩ := hsh
  refine FC_of [(0, .agg #[.int .i64 ((e : Int)), .int .i64 ((w : Int)), .int .i64 ((p : Int))]), (1, .string s), (2, .string t)] Try.func25 rfl Try.ntmps25 (by simp) rfl (fun R hR => ?_)
  refine V_sr T.mix (by kernel_rfl) (fun K1 hK1 => ?_)
  refine S_boxA rfl ?_
  generalize hh : Array.push h _ = h1
  have hX1 : B h1 h.size #[.int .i64 ((e : Int)), .int .i64 ((w : Int)), .int .i64 ((p : Int))] 55 := by rw [← hh]; exact B.new _ _ _
  have hEh1 : Ext (fun _ => False) h h1 := by rw [← hh]; exact Ext.push _ _ _
  have hsh1 : h1.size = h.size + 1 := by rw [← hh]; simp
  clear hh
  obtain ⟨x0, x1, x2, xk⟩ := aq (hX1)
  refine S_as rfl ?_
  refine S_nil (hK1 _ _ (V_keep [1, 2, 3] (by simp only [proj, lk, reduceIte, Nat.reduceEqDiff]; rfl) ?_)); clear hK1
  refine V_seq (fun K2 hK2 => ?_)
  refine V_sr T.mix (by kernel_rfl) (fun K3 hK3 => ?_)
  first | refine S_fa0 T.f55_0 rfl ?_ | refine S_fa T.f55_0 rfl ?_
  refine S_ldK T.ag53 rfl (fun K' hK' => ?_)
  simp (disch := omega) only [x0, x1, x2, oP_some, Nat.add_zero]
  refine hK' _ ?_; clear hK' K'
  refine S_bin rfl rfl rfl ?_
  refine S_nil (hK3 _ _ (V_keep [1, 2, 3, 9] (by simp only [proj, lk, reduceIte, Nat.reduceEqDiff]; rfl) ?_)); clear hK3
  refine V_condp rfl (fun c40 => ?_) (fun c40 => ?_)
  · skip
    have h41 := hs1 (by omega)
    refine V_sr T.mix (by kernel_rfl) (fun K4 hK4 => ?_)
    first | refine S_fa0 T.f55_1 rfl ?_ | refine S_fa T.f55_1 rfl ?_
    refine S_ldK T.ag3 rfl (fun K' hK' => ?_)
    simp (disch := omega) only [x0, x1, x2, oP_some, Nat.add_zero]
    refine hK' _ ?_; clear hK' K'
    refine S_bin rfl rfl rfl ?_
    refine S_mv rfl ?_
    refine S_dec (fun g41 => ?_) (fun g41 => ?_)
    · skip
      refine S_gt rfl ?_
      first | refine S_fa0 T.f55_2 rfl ?_ | refine S_fa T.f55_2 rfl ?_
      refine S_gt rfl ?_
      refine S_ldK T.ag3 rfl (fun K' hK' => ?_)
      simp (disch := omega) only [x0, x1, x2, oP_some, Nat.add_zero]
      refine hK' _ ?_; clear hK' K'
      refine S_gt rfl ?_
      refine S_bin rfl rfl rfl ?_
      refine S_pt rfl rfl ?_
      refine S_as rfl ?_
      refine S_nil (hK4 _ _ (V_keep [6] (by simp only [proj, lk, reduceIte, Nat.reduceEqDiff]; rfl) ?_)); clear hK4
      refine V_ret ?_
      refine hR _ _ (ret1 rfl rfl ?_)
      exact ⟨by simp <;> omega, hEh1⟩
    · skip
      exact absurd (by omega) g41
  · skip
    have h43 := hs2 (by omega)
    refine V_skipk [1, 2, 3] (by simp only [proj, lk, reduceIte, Nat.reduceEqDiff]; rfl) ?_
    refine hK2 _ _ ?_; clear hK2
    refine V_seq (fun K5 hK5 => ?_)
    refine V_sr T.mix (by kernel_rfl) (fun K6 hK6 => ?_)
    first | refine S_fa0 T.f55_1 rfl ?_ | refine S_fa T.f55_1 rfl ?_
    refine S_ldK T.ag3 rfl (fun K' hK' => ?_)
    simp (disch := omega) only [x0, x1, x2, oP_some, Nat.add_zero]
    refine hK' _ ?_; clear hK' K'
    refine S_nil (hK6 _ _ (V_keep [1, 2, 3, 19] (by simp only [proj, lk, reduceIte, Nat.reduceEqDiff]; rfl) ?_)); clear hK6
    refine V_block ?_
    refine V_sr T.mix (by kernel_rfl) (fun K7 hK7 => ?_)
    refine S_bin rfl rfl rfl ?_
    refine S_as rfl ?_
    refine S_nil (hK7 _ _ (V_keep [1, 2, 3, 19, 20] (by simp only [proj, lk, reduceIte, Nat.reduceEqDiff]; rfl) ?_)); clear hK7
    refine V_condp rfl (fun c44 => ?_) (fun c44 => ?_)
    · skip
      refine V_sr T.mix (by kernel_rfl) (fun K8 hK8 => ?_)
      first | refine S_fa0 T.f55_2 rfl ?_ | refine S_fa T.f55_2 rfl ?_
      refine S_ldK T.ag3 rfl (fun K' hK' => ?_)
      simp (disch := omega) only [x0, x1, x2, oP_some, Nat.add_zero]
      refine hK' _ ?_; clear hK' K'
      refine S_bin rfl rfl rfl ?_
      refine S_mv rfl ?_
      refine S_dec (fun g45 => ?_) (fun g45 => ?_)
      · skip
        refine S_gt rfl ?_
        first | refine S_fa0 T.f55_2 rfl ?_ | refine S_fa T.f55_2 rfl ?_
        refine S_gt rfl ?_
        refine S_ldK T.ag3 rfl (fun K' hK' => ?_)
        simp (disch := omega) only [x0, x1, x2, oP_some, Nat.add_zero]
        refine hK' _ ?_; clear hK' K'
        refine S_gt rfl ?_
        refine S_mv rfl ?_
        refine S_gt rfl ?_
        refine S_lens T.kd9 rfl ?_
        refine S_gt rfl ?_
        refine S_bin rfl rfl rfl ?_
        refine S_pt rfl rfl ?_
        refine S_as rfl ?_
        refine S_nil (hK8 _ _ (V_keep [6] (by simp only [proj, lk, reduceIte, Nat.reduceEqDiff]; rfl) ?_)); clear hK8
        refine V_ret ?_
        refine hR _ _ (ret1 rfl rfl ?_)
        exact ⟨by simp <;> omega, hEh1⟩
      · skip
        exact absurd (by omega) g45
    · skip
      refine V_sr T.mix (by kernel_rfl) (fun K9 hK9 => ?_)
      refine S_bin rfl rfl rfl ?_
      refine S_as rfl ?_
      refine S_nil (hK9 _ _ (V_keep [2, 3, 19, 32] (by simp only [proj, lk, reduceIte, Nat.reduceEqDiff]; rfl) ?_)); clear hK9
      refine V_condp rfl (fun c46 => ?_) (fun c46 => ?_)
      · skip
        refine V_sr T.mix (by kernel_rfl) (fun K10 hK10 => ?_)
        first | refine S_fa0 T.f55_2 rfl ?_ | refine S_fa T.f55_2 rfl ?_
        refine S_ldK T.ag3 rfl (fun K' hK' => ?_)
        simp (disch := omega) only [x0, x1, x2, oP_some, Nat.add_zero]
        refine hK' _ ?_; clear hK' K'
        refine S_bin rfl rfl rfl ?_
        refine S_mv rfl ?_
        refine S_dec (fun g47 => ?_) (fun g47 => ?_)
        · skip
          refine S_gt rfl ?_
          first | refine S_fa0 T.f55_2 rfl ?_ | refine S_fa T.f55_2 rfl ?_
          refine S_gt rfl ?_
          refine S_ldK T.ag3 rfl (fun K' hK' => ?_)
          simp (disch := omega) only [x0, x1, x2, oP_some, Nat.add_zero]
          refine hK' _ ?_; clear hK' K'
          refine S_gt rfl ?_
          refine S_mv rfl ?_
          refine S_gt rfl ?_
          refine S_lens T.kd9 rfl ?_
          refine S_gt rfl ?_
          refine S_bin rfl rfl rfl ?_
          refine S_pt rfl rfl ?_
          refine S_as rfl ?_
          refine S_nil (hK10 _ _ (V_keep [6] (by simp only [proj, lk, reduceIte, Nat.reduceEqDiff]; rfl) ?_)); clear hK10
          refine V_ret ?_
          refine hR _ _ (ret1 rfl rfl ?_)
          exact ⟨by simp <;> omega, hEh1⟩
        · skip
          exact absurd (by omega) g47
      · skip
        refine V_sr T.mix (by kernel_rfl) (fun K11 hK11 => ?_)
        refine S_bin rfl rfl rfl ?_
        refine S_as rfl ?_
        refine S_nil (hK11 _ _ (V_keep [3, 44] (by simp only [proj, lk, reduceIte, Nat.reduceEqDiff]; rfl) ?_)); clear hK11
        refine V_condp rfl (fun c48 => ?_) (fun c48 => ?_)
        · skip
          refine V_seq (fun K12 hK12 => ?_)
          refine V_sr T.mix (by kernel_rfl) (fun K13 hK13 => ?_)
          first | refine S_fa0 T.f55_2 rfl ?_ | refine S_fa T.f55_2 rfl ?_
          refine S_ldK T.ag3 rfl (fun K' hK' => ?_)
          simp (disch := omega) only [x0, x1, x2, oP_some, Nat.add_zero]
          refine hK' _ ?_; clear hK' K'
          refine S_bin rfl rfl rfl ?_
          refine S_nil (hK13 _ _ (V_keep [3, 48] (by simp only [proj, lk, reduceIte, Nat.reduceEqDiff]; rfl) ?_)); clear hK13
          refine V_condp rfl (fun c49 => ?_) (fun c49 => ?_)
          · skip
            exact absurd c49 (by omega)
          · skip
            refine V_skipk [3] (by simp only [proj, lk, reduceIte, Nat.reduceEqDiff]; rfl) ?_
            refine hK12 _ _ ?_; clear hK12
            refine V_sr T.mix (by kernel_rfl) (fun K14 hK14 => ?_)
            first | refine S_fa0 T.f55_0 rfl ?_ | refine S_fa T.f55_0 rfl ?_
            refine S_ldK T.ag53 rfl (fun K' hK' => ?_)
            simp (disch := omega) only [x0, x1, x2, oP_some, Nat.add_zero]
            refine hK' _ ?_; clear hK' K'
            refine S_bin rfl rfl rfl ?_
            refine S_mv rfl ?_
            refine S_dec (fun g52 => ?_) (fun g52 => ?_)
            · skip
              refine S_gf rfl ?_
              refine S_gf rfl ?_
              refine S_gf rfl ?_
              refine S_pt rfl rfl ?_
              refine S_mv rfl ?_
              refine S_gf rfl ?_
              refine S_gf rfl ?_
              refine S_gf rfl ?_
              refine S_pt rfl rfl ?_
              refine S_mv rfl ?_
              refine S_gf rfl ?_
              refine S_gf rfl ?_
              refine S_gf rfl ?_
              refine S_pt rfl rfl ?_
              refine S_as rfl ?_
              refine S_nil (hK14 _ _ (V_keep [6] (by simp only [proj, lk, reduceIte, Nat.reduceEqDiff]; rfl) ?_)); clear hK14
              refine V_ret ?_
              refine hR _ _ (ret1 rfl rfl ?_)
              exact ⟨by simp <;> omega, hEh1⟩
            · skip
              refine S_gt rfl ?_
              first | refine S_fa0 T.f55_0 rfl ?_ | refine S_fa T.f55_0 rfl ?_
              refine S_gt rfl ?_
              refine S_ldK T.ag53 rfl (fun K' hK' => ?_)
              simp (disch := omega) only [x0, x1, x2, oP_some, Nat.add_zero]
              refine hK' _ ?_; clear hK' K'
              refine S_gt rfl ?_
              refine S_bin rfl rfl rfl ?_
              refine S_pf rfl rfl ?_
              refine S_mv rfl ?_
              refine S_dec (fun g52a => ?_) (fun g52a => ?_)
              · skip
                refine S_gf rfl ?_
                refine S_gf rfl ?_
                refine S_gf rfl ?_
                refine S_pt rfl rfl ?_
                refine S_mv rfl ?_
                refine S_gf rfl ?_
                refine S_gf rfl ?_
                refine S_gf rfl ?_
                refine S_pt rfl rfl ?_
                refine S_as rfl ?_
                refine S_nil (hK14 _ _ (V_keep [6] (by simp only [proj, lk, reduceIte, Nat.reduceEqDiff]; rfl) ?_)); clear hK14
                refine V_ret ?_
                refine hR _ _ (ret1 rfl rfl ?_)
                exact ⟨by simp <;> omega, hEh1⟩
              · skip
                refine S_gt rfl ?_
                first | refine S_fa0 T.f55_0 rfl ?_ | refine S_fa T.f55_0 rfl ?_
                refine S_gt rfl ?_
                refine S_ldK T.ag53 rfl (fun K' hK' => ?_)
                simp (disch := omega) only [x0, x1, x2, oP_some, Nat.add_zero]
                refine hK' _ ?_; clear hK' K'
                refine S_gt rfl ?_
                refine S_bin rfl rfl rfl ?_
                refine S_pf rfl rfl ?_
                refine S_mv rfl ?_
                refine S_dec (fun g52b => ?_) (fun g52b => ?_)
                · skip
                  refine S_gf rfl ?_
                  refine S_gf rfl ?_
                  refine S_gf rfl ?_
                  refine S_pt rfl rfl ?_
                  refine S_as rfl ?_
                  refine S_nil (hK14 _ _ (V_keep [6] (by simp only [proj, lk, reduceIte, Nat.reduceEqDiff]; rfl) ?_)); clear hK14
                  refine V_ret ?_
                  refine hR _ _ (ret1 rfl rfl ?_)
                  exact ⟨by simp <;> omega, hEh1⟩
                · skip
                  refine S_gt rfl ?_
                  first | refine S_fa0 T.f55_0 rfl ?_ | refine S_fa T.f55_0 rfl ?_
                  refine S_gt rfl ?_
                  refine S_ldK T.ag53 rfl (fun K' hK' => ?_)
                  simp (disch := omega) only [x0, x1, x2, oP_some, Nat.add_zero]
                  refine hK' _ ?_; clear hK' K'
                  refine S_gt rfl ?_
                  refine S_bin rfl rfl rfl ?_
                  refine S_pf rfl rfl ?_
                  refine S_as rfl ?_
                  refine S_nil (hK14 _ _ (V_keep [6] (by simp only [proj, lk, reduceIte, Nat.reduceEqDiff]; rfl) ?_)); clear hK14
                  refine V_ret ?_
                  refine hR _ _ (ret1 rfl rfl ?_)
                  exact ⟨by simp <;> omega, hEh1⟩
        · skip
          exact absurd (by omega) c48
set_option maxHeartbeats 400000 in
theorem lproblem_spec (h : Heap) (s : ByteArray) :
    FC Try.prog 40 (#[.string s] : Array Value) h fun rv h' => ∃ (ca : Option Addr) (cc : Nat) (L : List (List Int)), rv = .tuple #[.slice ca L.length cc, .int .i64 (prE s : Nat), .int .i64 (prP s : Nat)] ∧ LV h.size h'.size h' ca cc L ∧ (prE s = 0 → L = ((rowsOf (parseF s).2.2).map (·.2))) ∧ Ext (fun _ => False) h h' := by
  refine FC_of [(0, .string s)] Try.func40 rfl Try.ntmps40 (by simp) rfl (fun R hR => ?_)
  refine V_sr T.mix (by kernel_rfl) (fun K1 hK1 => ?_)
  refine S_as rfl ?_
  refine S_as rfl ?_
  refine S_as rfl ?_
  refine S_nil (hK1 _ _ (V_keep [0] (by simp only [proj, lk, reduceIte, Nat.reduceEqDiff]; rfl) ?_)); clear hK1
  refine V_sr T.mix (by kernel_rfl) (fun K2 hK2 => ?_)
  refine S_call T.hb14 rfl ?_
  refine FC.mono (mnew_spec h) ?_
  rintro v' h1 ⟨rfl, hM1, hE1⟩
  have hl1 := hE1.1
  refine S_as rfl ?_
  refine S_nil (hK2 _ _ (V_keep [0, 5] (by simp only [proj, lk, reduceIte, Nat.reduceEqDiff]; rfl) ?_)); clear hK2
  refine V_sr T.mix (by kernel_rfl) (fun K3 hK3 => ?_)
  refine S_mv rfl ?_
  refine S_mv rfl ?_
  refine S_call T.hb34 rfl ?_
  refine FC.mono (problem_spec h1 h.size 0 0 hM1 s) ?_
  rintro v' h2 ⟨ca, cc, Lp, rfl, hlv, hL0, hE2, u2, w2, hM2⟩
  refine S_ex rfl rfl ?_
  refine S_ex rfl rfl ?_
  refine S_ex rfl rfl ?_
  refine S_as rfl ?_
  refine S_as rfl ?_
  refine S_as rfl ?_
  refine S_nil (hK3 _ _ (V_keep [2, 3, 4] (by simp only [proj, lk, reduceIte, Nat.reduceEqDiff]; rfl) ?_)); clear hK3
  refine V_ret ?_
  refine hR _ _ (ret3 rfl rfl rfl rfl ?_)
  exact ⟨ca, cc, Lp, rfl, hlv.wid hl1 (Nat.le_refl _) (Nat.le_refl _), hL0, hE1.step hE2 (fun z hz e => by omega)⟩
set_option maxHeartbeats 400000 in
theorem sound_spec (h : Heap) (e w p : Nat) (s : ByteArray) (hso : e = 0 → prE s = 0 ∧ ∀ m, m < 4096 → ¬ sat ((rowsOf (parseF s).2.2).map (·.2)) m) :
    FC Try.prog 26 (#[.agg #[.int .i64 ((e : Int)), .int .i64 ((w : Int)), .int .i64 ((p : Int))], .string s] : Array Value) h fun rv h' => rv = .bool true ∧ Ext (fun _ => False) h h' := by
  refine FC_of [(0, .agg #[.int .i64 ((e : Int)), .int .i64 ((w : Int)), .int .i64 ((p : Int))]), (1, .string s)] Try.func26 rfl Try.ntmps26 (by simp) rfl (fun R hR => ?_)
  refine V_sr T.mix (by kernel_rfl) (fun K1 hK1 => ?_)
  refine S_boxA rfl ?_
  generalize hh : Array.push h _ = h1
  have hX1 : B h1 h.size #[.int .i64 ((e : Int)), .int .i64 ((w : Int)), .int .i64 ((p : Int))] 55 := by rw [← hh]; exact B.new _ _ _
  have hEh1 : Ext (fun _ => False) h h1 := by rw [← hh]; exact Ext.push _ _ _
  have hsh1 : h1.size = h.size + 1 := by rw [← hh]; simp
  clear hh
  obtain ⟨x0, x1, x2, xk⟩ := aq (hX1)
  refine S_as rfl ?_
  refine S_nil (hK1 _ _ (V_keep [1, 2] (by simp only [proj, lk, reduceIte, Nat.reduceEqDiff]; rfl) ?_)); clear hK1
  refine V_seq (fun K2 hK2 => ?_)
  refine V_sr T.mix (by kernel_rfl) (fun K3 hK3 => ?_)
  first | refine S_fa0 T.f55_0 rfl ?_ | refine S_fa T.f55_0 rfl ?_
  refine S_ldK T.ag53 rfl (fun K' hK' => ?_)
  simp (disch := omega) only [x0, x1, x2, oP_some, Nat.add_zero]
  refine hK' _ ?_; clear hK' K'
  refine S_bin rfl rfl rfl ?_
  refine S_nil (hK3 _ _ (V_keep [1, 10] (by simp only [proj, lk, reduceIte, Nat.reduceEqDiff]; rfl) ?_)); clear hK3
  refine V_condp rfl (fun c59 => ?_) (fun c59 => ?_)
  · skip
    refine V_sr T.mix (by kernel_rfl) (fun K4 hK4 => ?_)
    refine S_as rfl ?_
    refine S_nil (hK4 _ _ (V_keep [4] (by simp only [proj, lk, reduceIte, Nat.reduceEqDiff]; rfl) ?_)); clear hK4
    refine V_ret ?_
    refine hR _ _ (ret1 rfl rfl ?_)
    exact ⟨rfl, hEh1⟩
  · skip
    have h59 := hso (by omega)
    refine V_skipk [1] (by simp only [proj, lk, reduceIte, Nat.reduceEqDiff]; rfl) ?_
    refine hK2 _ _ ?_; clear hK2
    refine V_sr T.mix (by kernel_rfl) (fun K5 hK5 => ?_)
    refine S_mv rfl ?_
    refine S_call T.hb40 rfl ?_
    refine FC.mono (lproblem_spec h1 s) ?_
    rintro v' h2 ⟨ca, cc, Lp, rfl, hlv, hL0, hE2⟩
    refine S_mv rfl ?_
    refine S_ex rfl rfl ?_
    refine S_ex rfl rfl ?_
    refine S_ex rfl rfl ?_
    refine S_as rfl ?_
    refine S_as rfl ?_
    refine S_as rfl ?_
    refine S_nil (hK5 _ _ (V_keep [5, 6] (by simp only [proj, lk, reduceIte, Nat.reduceEqDiff]; rfl) ?_)); clear hK5
    refine V_seq (fun K6 hK6 => ?_)
    refine V_sr T.mix (by kernel_rfl) (fun K7 hK7 => ?_)
    refine S_mv rfl ?_
    refine S_bin rfl rfl rfl ?_
    refine S_nil (hK7 _ _ (V_keep [5, 18] (by simp only [proj, lk, reduceIte, Nat.reduceEqDiff]; rfl) ?_)); clear hK7
    refine V_condp rfl (fun c63 => ?_) (fun c63 => ?_)
    · skip
      exact absurd h59.1 (by omega)
    · skip
      have hLp := hL0 h59.1
      have hpr := prob_rows h59.1
      refine V_skipk [5] (by simp only [proj, lk, reduceIte, Nat.reduceEqDiff]; rfl) ?_
      refine hK6 _ _ ?_; clear hK6
      refine V_sr T.mix (by kernel_rfl) (fun K8 hK8 => ?_)
      refine S_mv rfl ?_
      refine S_call T.hb41 rfl ?_
      refine FC.mono (table_spec h2 ca cc h1.size h2.size Lp hlv (by rw [hLp]; exact hpr.1) (by rw [hLp]; have h9 := hpr.2; omega)) ?_
      rintro v' h' ⟨r, rfl, hr, rfl⟩
      refine S_bin rfl rfl rfl ?_
      refine S_as rfl ?_
      refine S_nil (hK8 _ _ (V_keep [4] (by simp only [proj, lk, reduceIte, Nat.reduceEqDiff]; rfl) ?_)); clear hK8
      refine V_ret ?_
      refine hR _ _ (ret1 rfl rfl ?_)
      have hr1 : r = -1 := by
        rcases hr with q | ⟨m0, _, q1, q2⟩
        · exact q.1
        · rw [hLp] at q2; exact absurd q2 (h59.2 m0 q1)
      exact ⟨by rw [hr1]; rfl, hEh1.trans hE2⟩
set_option maxHeartbeats 400000 in
theorem ltree_spec (h : Heap) (s : ByteArray) :
    FC Try.prog 27 (#[.string s] : Array Value) h fun rv h' => ∃ (e p : Nat) (sb : Bool) (ma : Option Addr) (mn mc : Nat) (pf : ByteArray), rv = .agg #[.int .i64 e, .int .i64 p, .bool sb, .slice ma mn mc, .string pf, .int .i64 0, .int .i64 0] ∧ Ans3 s e sb pf ∧ Ext (fun _ => False) h h' := by
  refine FC_of [(0, .string s)] Try.func27 rfl Try.ntmps27 (by simp) rfl (fun R hR => ?_)
  refine V_sr T.mix (by kernel_rfl) (fun K1 hK1 => ?_)
  refine S_allocA T.z74 ?_
  generalize hh : Array.push h _ = hA
  have hRA : B hA h.size #[.int .i64 0, .int .i64 0, .bool false, .slice none 0 0, .string ⟨#[]⟩, .int .i64 0, .int .i64 0] 74 := by rw [← hh]; exact B.new _ _ _
  have hEhA : Ext (fun _ => False) h hA := by rw [← hh]; exact Ext.push _ _ _
  have hshA : hA.size = h.size + 1 := by rw [← hh]; simp
  clear hh
  refine S_nil (hK1 _ _ (V_keep [0, 2] (by simp only [proj, lk, reduceIte, Nat.reduceEqDiff]; rfl) ?_)); clear hK1
  refine V_sr T.mix (by kernel_rfl) (fun K2 hK2 => ?_)
  refine S_call T.hb42 rfl ?_
  refine FC.mono (snew_spec hA) ?_
  rintro v' h1 ⟨M, Sv, rfl, hSv, hM, hMn, hne, hE1⟩
  have hl1 := hE1.1
  refine S_as rfl ?_
  refine S_nil (hK2 _ _ (V_keep [0, 2, 3] (by simp only [proj, lk, reduceIte, Nat.reduceEqDiff]; rfl) ?_)); clear hK2
  refine V_sr T.mix (by kernel_rfl) (fun K3 hK3 => ?_)
  refine S_mv rfl ?_
  refine S_mv rfl ?_
  refine S_call T.hb43 rfl ?_
  refine FC.mono (solve_spec h1 Sv M hSv 0 0 hM hne s) ?_
  rintro v' h2 ⟨e, p, sb, ma, mn, mc, pf, rfl, ha3, hE2⟩
  have hR2 := (hRA.ext hE1 (fun f => f)).ext hE2 (fun e => by omega)
  have hRok : ∀ j, j < 7 → okPut h2 ⟨h.size, j, none⟩ = true := fun j hj => (hR2).ok (by simpa using hj)
  refine S_stl T.sz74 rfl rfl rfl rfl (fun j hj => by simp (disch := omega) only [hRok]) ?_
  generalize hh : putsH _ _ _ _ = h3
  have hR9 : B h3 (h.size) #[.int .i64 e, .int .i64 p, .bool sb, .slice ma mn mc, .string pf, .int .i64 0, .int .i64 0] 74 := by rw [← hh]; exact B.puts_all (hR2) (cs' := #[.int .i64 e, .int .i64 p, .bool sb, .slice ma mn mc, .string pf, .int .i64 0, .int .i64 0]) rfl
  have hEh3 : Ext (fun k => k = h.size) h2 h3 := by rw [← hh]; exact Ext.puts (S := fun k => k = h.size) rfl _ _ _
  clear hh
  refine S_nil (hK3 _ _ (V_keep [2] (by simp only [proj, lk, reduceIte, Nat.reduceEqDiff]; rfl) ?_)); clear hK3
  refine V_ret ?_
  refine hR _ _ (retc1 rfl rfl T.ag74 hR9 (by rfl) ?_)
  exact ⟨e, p, sb, ma, mn, mc, pf, rfl, ha3, ((hEhA.trans hE1).step hE2 (fun z hz e => by omega)).step hEh3 (fun z hz e => by omega)⟩
set_option maxHeartbeats 400000 in
theorem modelside_spec (h : Heap) :
    FC Try.prog 10 (#[] : Array Value) h fun rv h' => ∃ KC M : Nat, rv = .pointer (some ⟨KC, 0, none⟩) ∧ KM h' KC M ∧ h.size ≤ KC ∧ h.size ≤ M ∧ Ext (fun _ => False) h h' := by
  refine FC_of [] Try.func10 rfl Try.ntmps10 (by simp) rfl (fun R hR => ?_)
  refine V_sr T.mix (by kernel_rfl) (fun K1 hK1 => ?_)
  refine S_as rfl ?_
  refine S_nil (hK1 _ _ (V_keep [] (by simp only [proj, lk, reduceIte, Nat.reduceEqDiff]; rfl) ?_)); clear hK1
  refine V_sr T.mix (by kernel_rfl) (fun K2 hK2 => ?_)
  refine S_call T.hb14 rfl ?_
  refine FC.mono (mnew_spec h) ?_
  rintro v' h1 ⟨rfl, hM1, hE1⟩
  have hl1 := hE1.1
  have hl2 := hM1.lt
  refine S_as rfl ?_
  refine S_nil (hK2 _ _ (V_keep [1] (by simp only [proj, lk, reduceIte, Nat.reduceEqDiff]; rfl) ?_)); clear hK2
  refine V_sr T.mix (by kernel_rfl) (fun K3 hK3 => ?_)
  refine S_mv rfl ?_
  refine S_call T.hb15 rfl ?_
  refine FC.mono (mcnew_spec h1 h.size) ?_
  rintro v' h2 ⟨rfl, hK2, hE2⟩
  refine S_as rfl ?_
  refine S_nil (hK3 _ _ (V_keep [0] (by simp only [proj, lk, reduceIte, Nat.reduceEqDiff]; rfl) ?_)); clear hK3
  refine V_ret ?_
  refine hR _ _ (ret1 rfl rfl ?_)
  exact ⟨h1.size, h.size, rfl, ⟨hK2, ⟨0, 0, hM1.ext hE2 (fun f => f)⟩, by omega⟩, by omega, Nat.le_refl _, hE1.trans hE2⟩
set_option maxHeartbeats 400000 in
theorem ground_spec (h : Heap) :
    FC Try.prog 8 (#[] : Array Value) h fun rv h' => ∃ X : Nat, rv = .agg #[.pointer (some ⟨X, 0, none⟩)] ∧ Par h' X none 0 p0 ∧ h.size ≤ X ∧ Ext (fun _ => False) h h' := by
  refine FC_of [] Try.func8 rfl Try.ntmps8 (by simp) rfl (fun R hR => ?_)
  refine V_sr T.mix (by kernel_rfl) (fun K1 hK1 => ?_)
  refine S_allocA T.z29 ?_
  generalize hh : Array.push h _ = hA
  have hRA : B hA h.size #[.pointer none] 29 := by rw [← hh]; exact B.new _ _ _
  have hEhA : Ext (fun _ => False) h hA := by rw [← hh]; exact Ext.push _ _ _
  have hshA : hA.size = h.size + 1 := by rw [← hh]; simp
  clear hh
  refine S_nil (hK1 _ _ (V_keep [0] (by simp only [proj, lk, reduceIte, Nat.reduceEqDiff]; rfl) ?_)); clear hK1
  refine V_sr T.mix (by kernel_rfl) (fun K2 hK2 => ?_)
  refine S_call T.hb13 rfl ?_
  refine FC.mono (new_spec hA) ?_
  rintro v' h1 ⟨rfl, hP1, hE1⟩
  have hR1 := hRA.ext hE1 (fun f => f)
  have hRok : ∀ j, j < 1 → okPut h1 ⟨h.size, j, none⟩ = true := fun j hj => hR1.ok (by simpa using hj)
  refine S_as rfl ?_
  refine S_nil (hK2 _ _ (V_keep [0, 1] (by simp only [proj, lk, reduceIte, Nat.reduceEqDiff]; rfl) ?_)); clear hK2
  refine V_sr T.mix (by kernel_rfl) (fun K3 hK3 => ?_)
  refine S_mv rfl ?_
  refine S_bld rfl (T.bld29_0 _) ?_
  refine S_stl T.sz29 rfl rfl rfl rfl (fun j hj => by simp (disch := omega) only [hRok]) ?_
  generalize hh : putsH _ _ _ _ = h2
  have hR9 : B h2 (h.size) #[.pointer (some ⟨hA.size, 0, none⟩)] 29 := by rw [← hh]; exact B.puts_all (hR1) (cs' := #[.pointer (some ⟨hA.size, 0, none⟩)]) rfl
  have hEh2 : Ext (fun k => k = h.size) h1 h2 := by rw [← hh]; exact Ext.puts (S := fun k => k = h.size) rfl _ _ _
  clear hh
  refine S_nil (hK3 _ _ (V_keep [0] (by simp only [proj, lk, reduceIte, Nat.reduceEqDiff]; rfl) ?_)); clear hK3
  refine V_ret ?_
  refine hR _ _ (retc1 rfl rfl T.ag29 hR9 (by rfl) ?_)
  exact ⟨hA.size, rfl, hP1.ext hEh2 (fun e => by omega) (by simp [blkA]), by omega, (hEhA.trans hE1).step hEh2 (fun z hz e => by omega)⟩
set_option maxHeartbeats 1600000 in
theorem samecheck_spec (h : Heap) (C X : Nat) (a : Option Addr) (cap : Nat) (sl : Nat → Option (List Int)) (rs : RS h C X a cap sl) (KC M : Nat) (km : KM h KC M) (nf : ∀ z, FB C X a z → z ≠ KC ∧ z ≠ M) (s t : ByteArray) :
    FC Try.prog 18 (#[.agg #[.pointer (some ⟨X, 0, none⟩)], .pointer (some ⟨C, 0, none⟩), .pointer (some ⟨KC, 0, none⟩), .string s, .string t] : Array Value) h fun rv h' => ∃ (a' : Option Addr) (c' : Nat) (sl' : Nat → Option (List Int)), rv = .tuple #[.bool true, .agg #[.int .i64 ((chkF s t).1), .int .i64 ((chkF s t).2.1), .int .i64 ((chkF s t).2.2)]] ∧ RS h' C X a' c' sl' ∧ KM h' KC M ∧ Ext (fun z => FB C X a z ∨ z = M) h h' ∧ ∀ z, FB C X a' z → FB C X a z ∨ h.size ≤ z := by
  have hFl : ∀ z, FB C X a z → z < h.size := fun z e => rs.lt e
  have hKl := km.k.lt
  have hMl : M < h.size := by obtain ⟨u, w, q⟩ := km.m; exact q.lt
  refine FC_of [(0, .agg #[.pointer (some ⟨X, 0, none⟩)]), (1, .pointer (some ⟨C, 0, none⟩)), (2, .pointer (some ⟨KC, 0, none⟩)), (3, .string s), (4, .string t)] Try.func18 rfl Try.ntmps18 (by simp) rfl (fun R hR => ?_)
  refine V_sr T.mix (by kernel_rfl) (fun K1 hK1 => ?_)
  refine S_boxA rfl ?_
  generalize hh : Array.push h _ = h1
  have hX1 : B h1 h.size #[.pointer (some ⟨X, 0, none⟩)] 29 := by rw [← hh]; exact B.new _ _ _
  have hEh1 : Ext (fun _ => False) h h1 := by rw [← hh]; exact Ext.push _ _ _
  have hsh1 : h1.size = h.size + 1 := by rw [← hh]; simp
  clear hh
  refine S_as rfl ?_
  refine S_allocA T.z55 ?_
  generalize hh : Array.push h1 _ = h2
  have hR2 : B h2 h1.size #[.int .i64 0, .int .i64 0, .int .i64 0] 55 := by rw [← hh]; exact B.new _ _ _
  have hEh2 : Ext (fun _ => False) h1 h2 := by rw [← hh]; exact Ext.push _ _ _
  have hsh2 : h2.size = h1.size + 1 := by rw [← hh]; simp
  clear hh
  have hX2 := hX1.ext hEh2 (fun f => f)
  refine S_nil (hK1 _ _ (V_keep [1, 2, 3, 4, 5, 11] (by simp only [proj, lk, reduceIte, Nat.reduceEqDiff]; rfl) ?_)); clear hK1
  refine V_sr T.mix (by kernel_rfl) (fun K2 hK2 => ?_)
  refine S_ldn T.ag29 rfl ((hX2).all rfl) ?_
  refine S_call T.hb20 rfl ?_
  refine FC.mono (mark_spec h2 X) ?_
  rintro v' h3 ⟨rfl, hE3⟩
  have hs3 := hE3.1
  have hQ3 : Ext (fun _ => False) h h3 := (hEh1.trans hEh2).trans hE3
  have rs3 := rs.ext hQ3 (fun _ _ f => f)
  have km3 := km.ext hQ3 (fun f => f) (fun f => f)
  refine S_nil (hK2 _ _ (V_keep [1, 2, 3, 4, 5, 11] (by simp only [proj, lk, reduceIte, Nat.reduceEqDiff]; rfl) ?_)); clear hK2
  refine V_sr T.mix (by kernel_rfl) (fun K3 hK3 => ?_)
  refine S_mv rfl ?_
  refine S_mv rfl ?_
  refine S_mv rfl ?_
  refine S_call T.hb21 rfl ?_
  refine FC.mono (check_spec h3 C X a cap sl rs3 s t) ?_
  rintro v' h4 ⟨a4, c4, sl4, rfl, rs4, hE4, hn4⟩
  have hs4 := hE4.1
  have km4 := km3.ext hE4 (fun e => (nf _ e).1 rfl) (fun e => (nf _ e).2 rfl)
  have hX4 := (hX2.ext hE3 (fun f => f)).ext hE4 (fun e => by have h9 := hFl _ e; omega)
  have hR4 := (hR2.ext hE3 (fun f => f)).ext hE4 (fun e => by have h9 := hFl _ e; omega)
  have hn4b : ∀ z, FB C X a4 z → FB C X a z ∨ h.size + 2 ≤ z := fun z e => by rcases hn4 z e with q | q; (exact .inl q); (exact .inr (by omega))
  have hF4 : ∀ z, FB C X a4 z → z < h4.size := fun z e => rs4.lt e
  refine S_allocA T.z55 ?_
  generalize hh : Array.push h4 _ = h5
  have hV5 : B h5 h4.size #[.int .i64 0, .int .i64 0, .int .i64 0] 55 := by rw [← hh]; exact B.new _ _ _
  have hEh5 : Ext (fun _ => False) h4 h5 := by rw [← hh]; exact Ext.push _ _ _
  have hsh5 : h5.size = h4.size + 1 := by rw [← hh]; simp
  clear hh
  have hVok : ∀ j, j < 3 → okPut h5 ⟨h4.size, j, none⟩ = true := fun j hj => hV5.ok (by simpa using hj)
  refine S_stl T.sz55 rfl rfl rfl rfl (fun j hj => by simp (disch := omega) only [hVok]) ?_
  generalize hh : putsH _ _ _ _ = h6
  have hV6 : B h6 (h4.size) #[.int .i64 ((chkF s t).1), .int .i64 ((chkF s t).2.1), .int .i64 ((chkF s t).2.2)] 55 := by rw [← hh]; exact B.puts_all (hV5) (cs' := #[.int .i64 ((chkF s t).1), .int .i64 ((chkF s t).2.1), .int .i64 ((chkF s t).2.2)]) rfl
  have hEh6 : Ext (fun k => k = h4.size) h5 h6 := by rw [← hh]; exact Ext.puts (S := fun k => k = h4.size) rfl _ _ _
  clear hh
  have hs6 := hEh6.1
  have hX6 := (hX4.ext hEh5 (fun f => f)).ext hEh6 (fun e => by have h9 := hX4.lt; omega)
  have hR6 := (hR4.ext hEh5 (fun f => f)).ext hEh6 (fun e => by have h9 := hR4.lt; omega)
  have rs6 := (rs4.ext hEh5 (fun _ _ f => f)).ext hEh6 (fun z e w => by have h9 := hF4 z e; omega)
  have km6 := (km4.ext hEh5 (fun f => f) (fun f => f)).ext hEh6 (fun e => by omega) (fun e => by omega)
  have hQ6 : Ext (fun z => FB C X a z ∨ z = M) h h6 := (((hQ3.mono (fun _ f => f.elim)).step hE4 (fun z hz e => .inl e)).step hEh5 (fun _ _ f => f.elim)).step hEh6 (fun z hz e => by omega)
  clear hVok
  refine S_nil (hK3 _ _ (V_keep [2, 3, 4, 5, 11, 12] (by simp only [proj, lk, reduceIte, Nat.reduceEqDiff]; rfl) ?_)); clear hK3
  refine V_sr T.mix (by kernel_rfl) (fun K4 hK4 => ?_)
  refine S_mv rfl ?_
  refine S_mv rfl ?_
  refine S_mv rfl ?_
  refine S_call T.hb22 rfl ?_
  refine FC.mono (mcheck_spec h6 KC M km6 s t) ?_
  rintro v' h7 ⟨rfl, hE7, km7⟩
  have hs7 := hE7.1
  have rs7 := rs6.ext hE7 (fun z e w => by rcases hn4b z e with q | q; (exact (nf z q).2 w); (omega))
  have hX7 := hX6.ext hE7 (fun w => by omega)
  have hR7 := hR6.ext hE7 (fun w => by omega)
  have hV7 := hV6.ext hE7 (fun w => by omega)
  have hQ7 := hQ6.step hE7 (fun z hz e => .inr e)
  refine S_allocA T.z55 ?_
  generalize hh : Array.push h7 _ = h8
  have hU8 : B h8 h7.size #[.int .i64 0, .int .i64 0, .int .i64 0] 55 := by rw [← hh]; exact B.new _ _ _
  have hEh8 : Ext (fun _ => False) h7 h8 := by rw [← hh]; exact Ext.push _ _ _
  have hsh8 : h8.size = h7.size + 1 := by rw [← hh]; simp
  clear hh
  have hVok : ∀ j, j < 3 → okPut h8 ⟨h7.size, j, none⟩ = true := fun j hj => hU8.ok (by simpa using hj)
  refine S_stl T.sz55 rfl rfl rfl rfl (fun j hj => by simp (disch := omega) only [hVok]) ?_
  generalize hh : putsH _ _ _ _ = h9
  have hU9 : B h9 (h7.size) #[.int .i64 ((chkF s t).1), .int .i64 ((chkF s t).2.1), .int .i64 ((chkF s t).2.2)] 55 := by rw [← hh]; exact B.puts_all (hU8) (cs' := #[.int .i64 ((chkF s t).1), .int .i64 ((chkF s t).2.1), .int .i64 ((chkF s t).2.2)]) rfl
  have hEh9 : Ext (fun k => k = h7.size) h8 h9 := by rw [← hh]; exact Ext.puts (S := fun k => k = h7.size) rfl _ _ _
  clear hh
  have hs9 := hEh9.1
  have hX9 := (hX7.ext hEh8 (fun f => f)).ext hEh9 (fun e => by have h9 := hX7.lt; omega)
  have hR9 := (hR7.ext hEh8 (fun f => f)).ext hEh9 (fun e => by have h9 := hR7.lt; omega)
  have hV9 := (hV7.ext hEh8 (fun f => f)).ext hEh9 (fun e => by have h9 := hV7.lt; omega)
  have rs9 := (rs7.ext hEh8 (fun _ _ f => f)).ext hEh9 (fun z e w => by have h9 := rs7.lt e; omega)
  have km9 := (km7.ext hEh8 (fun f => f) (fun f => f)).ext hEh9 (fun e => by have h9 := km7.k.lt; omega) (fun e => by omega)
  have hQ9 := (hQ7.step hEh8 (fun _ _ f => f.elim)).step hEh9 (fun z hz e => by omega)
  refine S_nil (hK4 _ _ (V_keep [3, 4, 5, 11, 12, 13] (by simp only [proj, lk, reduceIte, Nat.reduceEqDiff]; rfl) ?_)); clear hK4
  refine V_seq (fun K5 hK5 => ?_)
  refine V_sr T.mix (by kernel_rfl) (fun K6 hK6 => ?_)
  refine S_ldn T.ag55 rfl ((hV9).all rfl) ?_
  refine S_ldn T.ag55 rfl ((hU9).all rfl) ?_
  refine S_call T.hb23 rfl ?_
  refine FC.mono (sameverdict_spec h9 _ _ _) ?_
  rintro v' h10 ⟨rfl, hE10⟩
  have hX10 := hX9.ext hE10 (fun f => f)
  have hV10 := hV9.ext hE10 (fun f => f)
  refine S_notb rfl ?_
  refine S_nil (hK6 _ _ (V_keep [3, 4, 5, 11, 12, 27] (by simp only [proj, lk, reduceIte, Nat.reduceEqDiff]; rfl) ?_)); clear hK6
  refine V_condb rfl (fun c90 => ?_) (fun c90 => ?_)
  · skip
    cases c90
  · skip
    refine V_skipk [3, 4, 5, 11, 12] (by simp only [proj, lk, reduceIte, Nat.reduceEqDiff]; rfl) ?_
    refine hK5 _ _ ?_; clear hK5
    refine V_seq (fun K7 hK7 => ?_)
    refine V_sr T.mix (by kernel_rfl) (fun K8 hK8 => ?_)
    refine S_ldn T.ag29 rfl ((hX10).all rfl) ?_
    refine S_ldn T.ag55 rfl ((hV10).all rfl) ?_
    refine S_call T.hb24 rfl ?_
    refine FC.mono (handed_spec h10 X _ _ _) ?_
    rintro v' h11 ⟨rfl, hE11⟩
    have hV11 := hV10.ext hE11 (fun f => f)
    refine S_notb rfl ?_
    refine S_nil (hK8 _ _ (V_keep [3, 4, 11, 12, 32] (by simp only [proj, lk, reduceIte, Nat.reduceEqDiff]; rfl) ?_)); clear hK8
    refine V_condb rfl (fun c93 => ?_) (fun c93 => ?_)
    · skip
      cases c93
    · skip
      refine V_skipk [3, 4, 11, 12] (by simp only [proj, lk, reduceIte, Nat.reduceEqDiff]; rfl) ?_
      refine hK7 _ _ ?_; clear hK7
      refine V_seq (fun K9 hK9 => ?_)
      refine V_sr T.mix (by kernel_rfl) (fun K10 hK10 => ?_)
      refine S_ldn T.ag55 rfl ((hV11).all rfl) ?_
      refine S_mv rfl ?_
      refine S_mv rfl ?_
      refine S_call T.hb25 rfl ?_
      refine FC.mono (shaped_spec h11 _ _ _ s t (chk_shape s t)) ?_
      rintro v' h12 ⟨rfl, hE12⟩
      have hV12 := hV11.ext hE12 (fun f => f)
      have hR12 := ((hR9.ext hE10 (fun f => f)).ext hE11 (fun f => f)).ext hE12 (fun f => f)
      refine S_notb rfl ?_
      refine S_nil (hK10 _ _ (V_keep [3, 11, 12, 38] (by simp only [proj, lk, reduceIte, Nat.reduceEqDiff]; rfl) ?_)); clear hK10
      refine V_condb rfl (fun c96 => ?_) (fun c96 => ?_)
      · skip
        cases c96
      · skip
        refine V_skipk [3, 11, 12] (by simp only [proj, lk, reduceIte, Nat.reduceEqDiff]; rfl) ?_
        refine hK9 _ _ ?_; clear hK9
        refine V_srM #[0, 1, 3, 2, 4, 5] [0, 1, 3] 2 [4, 5] T.mix (by kernel_rfl) rfl ⟨rfl, rfl⟩ (fun K11 hK11 => ?_)
        refine S_ldn T.ag55 rfl ((hV12).all rfl) ?_
        refine S_mv rfl ?_
        refine S_ldn T.ag55 rfl ((hV12).all rfl) ?_
        refine S_nil ?_
        refine SM_call T.hb26 rfl ?_
        refine FC.mono (sound_spec h12 _ _ _ s (fun e => chk_sound e)) ?_
        rintro v' h13 ⟨rfl, hE13⟩
        first | refine ⟨Grows.refl _, ?_⟩ | refine ⟨Grows.of_ext (by assumption), ?_⟩
        have hR13 := hR12.ext hE13 (fun f => f)
        have hRok : ∀ j, j < 3 → okPut h13 ⟨h1.size, j, none⟩ = true := fun j hj => hR13.ok (by simpa using hj)
        refine S_as rfl ?_
        refine S_stl T.sz55 rfl rfl rfl rfl (fun j hj => by simp (disch := omega) only [hRok]) ?_
        generalize hh : putsH _ _ _ _ = h14
        have hR14 : B h14 (h1.size) #[.int .i64 ((chkF s t).1), .int .i64 ((chkF s t).2.1), .int .i64 ((chkF s t).2.2)] 55 := by rw [← hh]; exact B.puts_all (hR13) (cs' := #[.int .i64 ((chkF s t).1), .int .i64 ((chkF s t).2.1), .int .i64 ((chkF s t).2.2)]) rfl
        have hEh14 : Ext (fun k => k = h1.size) h13 h14 := by rw [← hh]; exact Ext.puts (S := fun k => k = h1.size) rfl _ _ _
        clear hh
        have hQ13 := ((hE10.trans hE11).trans hE12).trans hE13
        refine S_nil (hK11 _ _ (V_keep [10, 11] (by simp only [proj, lk, reduceIte, Nat.reduceEqDiff]; rfl) ?_)); clear hK11
        refine V_ret ?_
        refine hR _ _ (retct rfl rfl rfl T.ag55 hR14 (by rfl) ?_)
        exact ⟨a4, c4, sl4, rfl, (rs9.ext hQ13 (fun _ _ f => f)).ext hEh14 (fun z e w => by rcases hn4b z e with q | q; (have h9 := hFl z q; omega); (omega)), (km9.ext hQ13 (fun f => f) (fun f => f)).ext hEh14 (fun e => by omega) (fun e => by omega), (hQ9.step hQ13 (fun _ _ f => f.elim)).step hEh14 (fun z hz e => by omega), fun z e => by rcases hn4b z e with q | q; (exact .inl q); (exact .inr (by omega))⟩
set_option maxHeartbeats 1600000 in
theorem complete_spec (h : Heap) (C X : Nat) (a : Option Addr) (cap : Nat) (sl : Nat → Option (List Int)) (rs : RS h C X a cap sl) (KC M : Nat) (km : KM h KC M) (nf : ∀ z, FB C X a z → z ≠ KC ∧ z ≠ M) (s : ByteArray) :
    FC Try.prog 19 (#[.agg #[.pointer (some ⟨X, 0, none⟩)], .pointer (some ⟨C, 0, none⟩), .pointer (some ⟨KC, 0, none⟩), .string s] : Array Value) h fun rv h' => ∃ (a' : Option Addr) (c' : Nat) (sl' : Nat → Option (List Int)), rv = .bool true ∧ RS h' C X a' c' sl' ∧ KM h' KC M ∧ Ext (fun z => FB C X a z ∨ z = M) h h' ∧ ∀ z, FB C X a' z → FB C X a z ∨ h.size ≤ z := by
  have hFl : ∀ z, FB C X a z → z < h.size := fun z e => rs.lt e
  refine FC_of [(0, .agg #[.pointer (some ⟨X, 0, none⟩)]), (1, .pointer (some ⟨C, 0, none⟩)), (2, .pointer (some ⟨KC, 0, none⟩)), (3, .string s)] Try.func19 rfl Try.ntmps19 (by simp) rfl (fun R hR => ?_)
  refine V_sr T.mix (by kernel_rfl) (fun K1 hK1 => ?_)
  refine S_boxA rfl ?_
  generalize hh : Array.push h _ = h1
  have hX1 : B h1 h.size #[.pointer (some ⟨X, 0, none⟩)] 29 := by rw [← hh]; exact B.new _ _ _
  have hEh1 : Ext (fun _ => False) h h1 := by rw [← hh]; exact Ext.push _ _ _
  have hsh1 : h1.size = h.size + 1 := by rw [← hh]; simp
  clear hh
  refine S_as rfl ?_
  refine S_nil (hK1 _ _ (V_keep [1, 2, 3, 4] (by simp only [proj, lk, reduceIte, Nat.reduceEqDiff]; rfl) ?_)); clear hK1
  refine V_sr T.mix (by kernel_rfl) (fun K2 hK2 => ?_)
  refine S_mv rfl ?_
  refine S_call T.hb27 rfl ?_
  refine FC.mono (ltree_spec h1 s) ?_
  rintro v' h2 ⟨e, p, sb, ma, mn, mc, pf, rfl, ha3, hE2⟩
  have hs2 := hE2.1
  refine S_allocA T.z74 ?_
  generalize hh : Array.push h2 _ = h3
  have hY3 : B h3 h2.size #[.int .i64 0, .int .i64 0, .bool false, .slice none 0 0, .string ⟨#[]⟩, .int .i64 0, .int .i64 0] 74 := by rw [← hh]; exact B.new _ _ _
  have hEh3 : Ext (fun _ => False) h2 h3 := by rw [← hh]; exact Ext.push _ _ _
  have hsh3 : h3.size = h2.size + 1 := by rw [← hh]; simp
  clear hh
  have hYok : ∀ j, j < 7 → okPut h3 ⟨h2.size, j, none⟩ = true := fun j hj => hY3.ok (by simpa using hj)
  refine S_stl T.sz74 rfl rfl rfl rfl (fun j hj => by simp (disch := omega) only [hYok]) ?_
  generalize hh : putsH _ _ _ _ = h4
  have hY4 : B h4 (h2.size) #[.int .i64 e, .int .i64 p, .bool sb, .slice ma mn mc, .string pf, .int .i64 0, .int .i64 0] 74 := by rw [← hh]; exact B.puts_all (hY3) (cs' := #[.int .i64 e, .int .i64 p, .bool sb, .slice ma mn mc, .string pf, .int .i64 0, .int .i64 0]) rfl
  have hEh4 : Ext (fun k => k = h2.size) h3 h4 := by rw [← hh]; exact Ext.puts (S := fun k => k = h2.size) rfl _ _ _
  clear hh
  have hs4 := hEh4.1
  have y0 : cellH h4 ⟨h2.size, 0, none⟩ = some (.int .i64 e) := hY4.cell 0
  have y2 : cellH h4 ⟨h2.size, 2, none⟩ = some (.bool sb) := hY4.cell 2
  have y4 : cellH h4 ⟨h2.size, 4, none⟩ = some (.string pf) := hY4.cell 4
  have hQ4 : Ext (fun _ => False) h h4 := ((hEh1.trans hE2).trans hEh3).step hEh4 (fun z hz e => by omega)
  have rs4 := rs.ext hQ4 (fun _ _ f => f)
  have km4 := km.ext hQ4 (fun f => f) (fun f => f)
  have hX4 := ((hX1.ext hE2 (fun f => f)).ext hEh3 (fun f => f)).ext hEh4 (fun e => by have h9 := hX1.lt; omega)
  refine S_nil (hK2 _ _ (V_keep [1, 2, 3, 4, 9] (by simp only [proj, lk, reduceIte, Nat.reduceEqDiff]; rfl) ?_)); clear hK2
  refine V_seq (fun K3 hK3 => ?_)
  refine V_sr T.mix (by kernel_rfl) (fun K4 hK4 => ?_)
  first | refine S_fa0 T.f74_0 rfl ?_ | refine S_fa T.f74_0 rfl ?_
  refine S_ldK T.ag53 rfl (fun K' hK' => ?_)
  simp (disch := omega) only [y0, y2, y4, oP_some, Nat.add_zero]
  refine hK' _ ?_; clear hK' K'
  refine S_bin rfl rfl rfl ?_
  refine S_mv rfl ?_
  refine S_dec (fun g105 => ?_) (fun g105 => ?_)
  · skip
    refine S_gf rfl ?_
    refine S_gf rfl ?_
    refine S_pt rfl rfl ?_
    refine S_nil (hK4 _ _ (V_keep [1, 2, 3, 4, 9, 20] (by simp only [proj, lk, reduceIte, Nat.reduceEqDiff]; rfl) ?_)); clear hK4
    refine V_condt rfl ?_
    refine V_sr T.mix (by kernel_rfl) (fun K5 hK5 => ?_)
    refine S_as rfl ?_
    refine S_nil (hK5 _ _ (V_keep [8] (by simp only [proj, lk, reduceIte, Nat.reduceEqDiff]; rfl) ?_)); clear hK5
    refine V_ret ?_
    refine hR _ _ (ret1 rfl rfl ?_)
    exact ⟨a, cap, sl, rfl, rs4, km4, hQ4.mono (fun _ f => f.elim), fun z e => .inl e⟩
  · skip
    refine S_gt rfl ?_
    first | refine S_fa0 T.f74_2 rfl ?_ | refine S_fa T.f74_2 rfl ?_
    refine S_gt rfl ?_
    refine S_ldK T.ag4 rfl (fun K' hK' => ?_)
    simp (disch := omega) only [y0, y2, y4, oP_some, Nat.add_zero]
    refine hK' _ ?_; clear hK' K'
    refine S_pf rfl rfl ?_
    refine S_nil (hK4 _ _ (V_keep [1, 2, 3, 4, 9, 20] (by simp only [proj, lk, reduceIte, Nat.reduceEqDiff]; rfl) ?_)); clear hK4
    refine V_condb rfl (fun c105 => ?_) (fun c105 => ?_)
    · skip
      refine V_sr T.mix (by kernel_rfl) (fun K6 hK6 => ?_)
      refine S_as rfl ?_
      refine S_nil (hK6 _ _ (V_keep [8] (by simp only [proj, lk, reduceIte, Nat.reduceEqDiff]; rfl) ?_)); clear hK6
      refine V_ret ?_
      refine hR _ _ (ret1 rfl rfl ?_)
      exact ⟨a, cap, sl, rfl, rs4, km4, hQ4.mono (fun _ f => f.elim), fun z e => .inl e⟩
    · skip
      refine V_skipk [1, 2, 3, 4, 9] (by simp only [proj, lk, reduceIte, Nat.reduceEqDiff]; rfl) ?_
      refine hK3 _ _ ?_; clear hK3
      refine V_sr T.mix (by kernel_rfl) (fun K7 hK7 => ?_)
      refine S_ldn T.ag29 rfl ((hX4).all rfl) ?_
      refine S_mv rfl ?_
      refine S_mv rfl ?_
      refine S_mv rfl ?_
      first | refine S_fa0 T.f74_4 rfl ?_ | refine S_fa T.f74_4 rfl ?_
      refine S_ldK T.ag9 rfl (fun K' hK' => ?_)
      simp (disch := omega) only [y0, y2, y4, oP_some, Nat.add_zero]
      refine hK' _ ?_; clear hK' K'
      refine S_call T.hb18 rfl ?_
      refine FC.mono (samecheck_spec h4 C X a cap sl rs4 KC M km4 nf s pf) ?_
      rintro v' h5 ⟨a5, c5, sl5, rfl, rs5, km5, hE5, hn5⟩
      have hs5 := hE5.1
      have he0 : e = 0 := by omega
      subst he0
      have htc := tree_chk ha3 c105
      refine S_mv rfl ?_
      refine S_ex rfl rfl ?_
      refine S_ex rfl rfl ?_
      refine S_allocA T.z55 ?_
      generalize hh : Array.push h5 _ = h6
      have hV6 : B h6 h5.size #[.int .i64 0, .int .i64 0, .int .i64 0] 55 := by rw [← hh]; exact B.new _ _ _
      have hEh6 : Ext (fun _ => False) h5 h6 := by rw [← hh]; exact Ext.push _ _ _
      have hsh6 : h6.size = h5.size + 1 := by rw [← hh]; simp
      clear hh
      have hVok : ∀ j, j < 3 → okPut h6 ⟨h5.size, j, none⟩ = true := fun j hj => hV6.ok (by simpa using hj)
      refine S_as rfl ?_
      refine S_stl T.sz55 rfl rfl rfl rfl (fun j hj => by simp (disch := omega) only [hVok]) ?_
      generalize hh : putsH _ _ _ _ = h7
      have hV7 : B h7 (h5.size) #[.int .i64 ((chkF s pf).1), .int .i64 ((chkF s pf).2.1), .int .i64 ((chkF s pf).2.2)] 55 := by rw [← hh]; exact B.puts_all (hV6) (cs' := #[.int .i64 ((chkF s pf).1), .int .i64 ((chkF s pf).2.1), .int .i64 ((chkF s pf).2.2)]) rfl
      have hEh7 : Ext (fun k => k = h5.size) h6 h7 := by rw [← hh]; exact Ext.puts (S := fun k => k = h5.size) rfl _ _ _
      clear hh
      have v0 : cellH h7 ⟨h5.size, 0, none⟩ = some (.int .i64 ((chkF s pf).1 : Int)) := hV7.cell 0
      refine S_nil (hK7 _ _ (V_keep [10, 11] (by simp only [proj, lk, reduceIte, Nat.reduceEqDiff]; rfl) ?_)); clear hK7
      refine V_sr T.mix (by kernel_rfl) (fun K8 hK8 => ?_)
      refine S_mv rfl ?_
      refine S_mv rfl ?_
      refine S_decb (fun g109 => ?_) (fun g109 => ?_)
      · skip
        refine S_gt rfl ?_
        first | refine S_fa0 T.f55_0 rfl ?_ | refine S_fa T.f55_0 rfl ?_
        refine S_gt rfl ?_
        refine S_ldK T.ag53 rfl (fun K' hK' => ?_)
        simp (disch := omega) only [v0, oP_some, Nat.add_zero]
        refine hK' _ ?_; clear hK' K'
        refine S_gt rfl ?_
        refine S_bin rfl rfl rfl ?_
        refine S_pt rfl rfl ?_
        refine S_as rfl ?_
        refine S_nil (hK8 _ _ (V_keep [8] (by simp only [proj, lk, reduceIte, Nat.reduceEqDiff]; rfl) ?_)); clear hK8
        refine V_ret ?_
        refine hR _ _ (ret1 rfl rfl ?_)
        rw [htc]
        exact ⟨a5, c5, sl5, rfl, (rs5.ext hEh6 (fun _ _ f => f)).ext hEh7 (fun z e w => by have h9 := rs5.lt e; omega), (km5.ext hEh6 (fun f => f) (fun f => f)).ext hEh7 (fun e => by have h9 := km5.k.lt; omega) (fun e => by obtain ⟨u, w, q⟩ := km5.m; have h9 := q.lt; omega), (((hQ4.mono (fun _ f => f.elim)).trans hE5).step hEh6 (fun _ _ f => f.elim)).step hEh7 (fun z hz e => by omega), fun z e => by rcases hn5 z e with q | q; (exact .inl q); (exact .inr (by omega))⟩
      · skip
        cases g109
end Go.Proofs.Qxb6500398a
