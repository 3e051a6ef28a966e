import Derived.Test.Qxb6500400aGreatXf
set_option linter.unusedVariables false
set_option linter.unusedSimpArgs false
namespace Go.Proofs.Qxb6500400aGreat
open Go.Eng Go.Trl Go.Chk Go.Wat

theorem MR.zero {h : Heap} {mm : MC} (hu : ∀ i, i < 52 → mm.used i = false) (hz : ∀ i, i < 52 → mm.ca i = none ∧ mm.cn i = 0) (G : Nat → Prop) : MR h mm (fun _ => none) G :=
  ⟨fun i hi => by rw [hu i hi]; rfl, fun i hi _ => hz i hi, fun i hi cc e => (by cases e), fun i hi b e => by rw [(hz i hi).1] at e; simp [blkA] at e⟩
theorem lv_no {h : Heap} {mm : MC} {cl : Nat → Option (List Int)} {G : Nat → Prop} (r : MR h mm cl G) {id : Int} : (liveC cl id).isSome = decide (0 ≤ id ∧ id < 52 ∧ mm.used id.toNat = true) := by
  unfold liveC
  by_cases e : 0 ≤ id ∧ id < 52
  · rw [if_pos e, ← r.u id.toNat (by omega)]
    cases z : mm.used id.toNat <;> simp [e]
  · rw [if_neg e]; symm; simp; intro h1 h2; exact absurd ⟨h1, h2⟩ e
theorem liveS {cl : Nat → Option (List Int)} {id : Int} (h : (liveC cl id).isSome = true) : ∃ (n : Nat) (cc : List Int), id = n ∧ n < 52 ∧ cl n = some cc ∧ liveC cl id = some cc := by
  unfold liveC at h
  split at h
  · rename_i e
    obtain ⟨cc, hc⟩ := Option.isSome_iff_exists.1 h
    exact ⟨id.toNat, cc, by omega, by omega, hc, by unfold liveC; rw [if_pos e]; exact hc⟩
  · cases h
theorem lits_snoc {L : List It} {i : Nat} (h : i < L.length) : (lits L).take (i + 1) = (lits L).take i ++ [atL L i] := by
  have hl : i < (lits L).length := by rw [lits_len]; exact h
  rw [getD_snoc _ _ hl]; congr 2
  unfold atL lits; rw [if_pos (by omega), Int.toNat_natCast]; simp [h]
theorem atL_eq {L : List It} {i : Nat} (h : i < L.length) : atL L i = (lits L).getD i 0 := by
  unfold atL lits; rw [if_pos (by omega), Int.toNat_natCast]; simp [h]
theorem slk_snoc {c on : List Int} {i : Nat} (h : i < c.length) : slk (c.take (i + 1)) on = slk (c.take i) on + if -(c.getD i 0) ∈ on then 0 else 1 := by
  rw [getD_snoc _ _ h]; unfold slk; rw [List.filter_append, List.length_append]; congr 1
  by_cases e : -(c.getD i 0) ∈ on
  · simp only [e, not_true, decide_false, List.filter_cons, List.filter_nil, if_true]; rfl
  · simp only [e, not_false_eq_true, decide_true, List.filter_cons, List.filter_nil, if_false, if_true]; rfl
theorem slk_le (c on : List Int) : slk c on ≤ c.length := List.length_filter_le _ _
theorem bud_le (cl : Nat → Option (List Int)) (due : Nat → Bool) (ls : List Int) (c0 n i : Nat) : bud cl due ls c0 n i ≤ 1 + (n - c0) := by
  unfold bud; split
  · omega
  · rename_i c _; have := nc_le (some c) ls c0 n; split <;> omega
set_option maxHeartbeats 1600000 in
set_option maxRecDepth 100000 in
theorem mwnew_spec (h : Heap) (Y : Nat) :
    FC Tryz.prog 20 (#[.pointer (some ⟨Y, 0, none⟩)] : Array Value) h fun v h' => v = .pointer (some ⟨h.size, 0, none⟩) ∧ MB h' h.size Y ⟨fun _ => false, fun _ => none, fun _ => 0, fun _ => false, 0⟩ ∧ Ext (fun _ => False) h h' := by
  refine FC_of [(0, .pointer (some ⟨Y, 0, none⟩))] Tryz.func20 rfl Tryz.ntmps20 (by simp) rfl (fun R hR => ?_)
  refine V_sr T.mix (by kernel_rfl) (fun K1 hK1 => ?_)
  refine S_as rfl ?_
  refine S_nil (hK1 _ _ (V_keep [0] (by simp only [proj, lk, reduceIte, Nat.reduceEqDiff]; rfl) ?_)); clear hK1
  refine V_sr T.mix (by kernel_rfl) (fun K2 hK2 => ?_)
  refine S_mv rfl ?_
  refine S_bld rfl (T.bld91_0 _) ?_
  refine S_boxA rfl ?_
  refine S_as rfl ?_
  refine S_nil (hK2 _ _ (V_keep [2] (by simp only [proj, lk, reduceIte, Nat.reduceEqDiff]; rfl) ?_)); clear hK2
  refine V_ret ?_
  refine hR _ _ (ret1 rfl rfl ?_)
  exact ⟨rfl, (B.new _ _ _).cong (by kernel_rfl), Ext.push _ _ _⟩
set_option maxHeartbeats 400000 in
theorem mwreset_spec (h : Heap) (M Y : Nat) (mm : MC) (cl : Nat → Option (List Int)) (G F : Nat → Prop) (s : TS) (mv : MV h M Y mm cl G F s) :
    FC Tryz.prog 81 (#[.pointer (some ⟨M, 0, none⟩)] : Array Value) h fun rv h' => rv = .tuple #[] ∧ (∃ mz, MV h' M Y mz (fun _ => none) G F s ∧ mz.seen = 0) ∧ Ext (fun x => x = M) h h' := by
  have hB := mv.b
  have hE := Ext.refl (fun x => x = M) h
  refine FC_of [(0, .pointer (some ⟨M, 0, none⟩))] Tryz.func81 rfl Tryz.ntmps81 (by simp) rfl (fun R hR => ?_)
  refine V_seq (fun K1 hK1 => ?_)
  refine V_sr T.mix (by kernel_rfl) (fun K2 hK2 => ?_)
  refine S_as rfl ?_
  refine S_nil (hK2 _ _ (V_keep [0, 2] (by simp only [proj, lk, reduceIte, Nat.reduceEqDiff]; rfl) ?_)); clear hK2
  refine V_block ?_
  refine V_loop (fun m l h' => ∃ (i : Nat) (hk : Heap) (mk : MC), (i ≤ 52) ∧ (MB hk M Y mk) ∧ (∀ j, j < i → mk.used j = false ∧ mk.ca j = none ∧ mk.cn j = 0) ∧ (Ext (fun x => x = M) h hk) ∧ m = 52 - i ∧ l = [(0, .pointer (some ⟨M, 0, none⟩)), (2, .int .i64 (i : Int))] ∧ hk = h') _ ⟨0, h, mm, by omega, hB, fun j hj => by omega, hE, rfl, rfl, rfl⟩ ?_
  rintro m l h' ⟨i, hk, mk, hi, hBk, hz, hEk, rfl, rfl, rfl⟩ K3 hK3
  clear hB hE
  have hB := hBk
  have hE := hEk
  refine V_seq (fun K4 hK4 => ?_)
  refine V_sr T.mix (by kernel_rfl) (fun K5 hK5 => ?_)
  refine S_mv rfl ?_
  refine S_bin rfl rfl rfl ?_
  refine S_nil (hK5 _ _ (V_keep [0, 2, 4] (by simp only [proj, lk, reduceIte, Nat.reduceEqDiff]; rfl) ?_)); clear hK5
  refine V_condp rfl (fun c49 => ?_) (fun c49 => ?_)
  · skip
    refine V_skipk [0, 2] (by simp only [proj, lk, reduceIte, Nat.reduceEqDiff]; rfl) ?_
    refine hK4 _ _ ?_; clear hK4
    refine V_seq (fun K6 hK6 => ?_)
    refine V_block ?_
    refine V_sr T.mix (by kernel_rfl) (fun K7 hK7 => ?_)
    refine S_mv rfl ?_
    refine S_mv rfl ?_
    refine S_nc rfl ?_
    first | refine S_fa0 T.f91_1 rfl ?_ | refine S_fa T.f91_1 rfl ?_
    first | refine S_ixan T.ar88 rfl rfl (by omega) ?_ | refine S_ixa1 T.ar88 rfl rfl (by omega) (by omega) ?_
    refine S_st T.sz4 rfl rfl rfl rfl (by simp (disch := omega) only [mwok hB]) ?_
    generalize hh : putH _ _ _ = hk1
    have hBhk1 : MB hk1 M Y { mk with used := upB mk.used i false } := by rw [← hh]; exact msUsed hB i false (by omega)
    have hEhk1 : Ext (fun x => x = M) hk hk1 := by rw [← hh]; exact Ext.put _ _ rfl
    clear hh
    replace hE := hE.trans hEhk1
    clear hB
    have hB := hBhk1
    refine S_nil (hK7 _ _ (V_keep [0, 2] (by simp only [proj, lk, reduceIte, Nat.reduceEqDiff]; rfl) ?_)); clear hK7
    refine V_sr T.mix (by kernel_rfl) (fun K8 hK8 => ?_)
    refine S_mv rfl ?_
    refine S_mv rfl ?_
    refine S_nc rfl ?_
    first | refine S_fa0 T.f91_3 rfl ?_ | refine S_fa T.f91_3 rfl ?_
    first | refine S_ixan T.ar88 rfl rfl (by omega) ?_ | refine S_ixa1 T.ar88 rfl rfl (by omega) (by omega) ?_
    refine S_st T.sz4 rfl rfl rfl rfl (by simp (disch := omega) only [mwok hB]) ?_
    generalize hh : putH _ _ _ = hk2
    have hBhk2 : MB hk2 M Y { mk with used := upB mk.used i false, due := upB mk.due i false } := by rw [← hh]; exact msDue hB i false (by omega)
    have hEhk2 : Ext (fun x => x = M) hk1 hk2 := by rw [← hh]; exact Ext.put _ _ rfl
    clear hh
    replace hE := hE.trans hEhk2
    clear hB
    have hB := hBhk2
    refine S_nil (hK8 _ _ (V_keep [0, 2] (by simp only [proj, lk, reduceIte, Nat.reduceEqDiff]; rfl) ?_)); clear hK8
    refine V_reg T.mix (by kernel_rfl) ?_
    refine S_mv rfl ?_
    refine S_mv rfl ?_
    refine S_nc rfl ?_
    first | refine S_fa0 T.f91_2 rfl ?_ | refine S_fa T.f91_2 rfl ?_
    first | refine S_ixan T.ar89 rfl rfl (by omega) ?_ | refine S_ixa1 T.ar89 rfl rfl (by omega) (by omega) ?_
    refine S_st T.sz39 rfl rfl rfl rfl (by simp (disch := omega) only [mwok hB]) ?_
    generalize hh : putH _ _ _ = hk3
    have hBhk3 : MB hk3 M Y { mk with used := upB mk.used i false, due := upB mk.due i false, ca := upA mk.ca i none, cn := upN mk.cn i 0 } := by rw [← hh]; exact msCl hB i none 0 (by omega)
    have hEhk3 : Ext (fun x => x = M) hk2 hk3 := by rw [← hh]; exact Ext.put _ _ rfl
    clear hh
    replace hE := hE.trans hEhk3
    clear hB
    have hB := hBhk3
    refine S_nilk [0, 2] (by simp only [proj, lk, reduceIte, Nat.reduceEqDiff]; rfl) ?_
    refine hK6 _ _ ?_; clear hK6
    refine V_reg T.mix (by kernel_rfl) ?_
    refine S_mv rfl ?_
    first | refine S_add rfl rfl (by omega) (by omega) ?_ | refine S_bin rfl rfl rfl ?_
    refine S_as rfl ?_
    refine S_nilk [0, 2] (by simp only [proj, lk, reduceIte, Nat.reduceEqDiff]; rfl) ?_
    exact hK3 _ _ ⟨_, by omega, i + 1, hk3, _, by omega, hB, fun j hj => by by_cases e : j = i; (simp only [upB, upA, upN, if_pos e]; exact ⟨trivial, trivial, trivial⟩); (simp only [upB, upA, upN, if_neg e]; exact hz j (by omega)), hE, rfl, rfl, rfl⟩
  · skip
    refine V_exitk [0] rfl (by simp only [proj, lk, reduceIte, Nat.reduceEqDiff]; rfl) ?_
    refine hK1 _ _ ?_; clear hK1
    refine V_reg T.mix (by kernel_rfl) ?_
    refine S_mv rfl ?_
    refine S_nc rfl ?_
    first | refine S_fa0 T.f91_4 rfl ?_ | refine S_fa T.f91_4 rfl ?_
    refine S_st T.sz3 rfl rfl rfl rfl (by simp (disch := omega) only [mwok hB]) ?_
    generalize hh : putH _ _ _ = h5
    have hBh5 : MB h5 M Y { mk with seen := 0 } := by rw [← hh]; exact msSeen hB 0
    have hEh5 : Ext (fun x => x = M) hk h5 := by rw [← hh]; exact Ext.put _ _ rfl
    clear hh
    replace hE := hE.trans hEh5
    clear hB
    have hB := hBh5
    refine S_nilk [] (by simp only [proj, lk, reduceIte, Nat.reduceEqDiff]; rfl) ?_
    -- end
    refine hR _ _ (ret0 rfl ?_)
    exact ⟨rfl, ⟨{ mk with seen := 0 }, mv.set hB (MR.zero (mm := { mk with seen := 0 }) (fun j hj => (hz j (by omega)).1) (fun j hj => (hz j (by omega)).2) G) hE, rfl⟩, hE⟩
set_option maxHeartbeats 400000 in
theorem mwlive_spec (h : Heap) (M Y : Nat) (mm : MC) (cl : Nat → Option (List Int)) (G F : Nat → Prop) (s : TS) (mv : MV h M Y mm cl G F s) (id : Int) :
    FC Tryz.prog 89 (#[.pointer (some ⟨M, 0, none⟩), .int .i64 id] : Array Value) h fun rv h' => rv = .bool ((liveC cl id).isSome) ∧ h = h' := by
  have hB := mv.b
  have hE := Ext.refl (fun x => x = M) h
  refine FC_of [(0, .pointer (some ⟨M, 0, none⟩)), (1, .int .i64 id)] Tryz.func89 rfl Tryz.ntmps89 (by simp) rfl (fun R hR => ?_)
  refine V_sr T.mix (by kernel_rfl) (fun K1 hK1 => ?_)
  refine S_as rfl ?_
  refine S_nil (hK1 _ _ (V_keep [0, 1] (by simp only [proj, lk, reduceIte, Nat.reduceEqDiff]; rfl) ?_)); clear hK1
  refine V_sr T.mix (by kernel_rfl) (fun K2 hK2 => ?_)
  refine S_mv rfl ?_
  refine S_bin rfl rfl rfl ?_
  refine S_mv rfl ?_
  refine S_dec (fun g77 => ?_) (fun g77 => ?_)
  · skip
    refine S_gt rfl ?_
    refine S_mv rfl ?_
    refine S_gt rfl ?_
    refine S_bin rfl rfl rfl ?_
    refine S_pt rfl rfl ?_
    refine S_mv rfl ?_
    refine S_dec (fun g77a => ?_) (fun g77a => ?_)
    · skip
      refine S_gt rfl ?_
      refine S_mv rfl ?_
      refine S_gt rfl ?_
      refine S_mv rfl ?_
      refine S_gt rfl ?_
      refine S_nc rfl ?_
      refine S_gt rfl ?_
      first | refine S_fa0 T.f91_1 rfl ?_ | refine S_fa T.f91_1 rfl ?_
      refine S_gt rfl ?_
      first | refine S_ixan T.ar88 rfl rfl (by omega) ?_ | refine S_ixa1 T.ar88 rfl rfl (by omega) (by omega) ?_
      refine S_gt rfl ?_
      refine S_ldK T.ag4 rfl (fun K' hK' => ?_)
      simp (disch := omega) only [mlT hB, mlUsed hB, mlCl hB, mlDue hB, mlSeen hB, oP_some, Nat.add_zero]
      refine hK' _ ?_; clear hK' K'
      refine S_pt rfl rfl ?_
      refine S_as rfl ?_
      refine S_nil (hK2 _ _ (V_keep [4] (by simp only [proj, lk, reduceIte, Nat.reduceEqDiff]; rfl) ?_)); clear hK2
      refine V_ret ?_
      refine hR _ _ (ret1 rfl rfl ?_)
      exact ⟨by rw [lv_no mv.r]; cases mm.used id.toNat <;> simp [show 0 ≤ id by omega, show id < 52 by omega], rfl⟩
    · skip
      refine S_gf rfl ?_
      refine S_gf rfl ?_
      refine S_gf rfl ?_
      refine S_gf rfl ?_
      refine S_gf rfl ?_
      refine S_gf rfl ?_
      refine S_pf rfl rfl ?_
      refine S_as rfl ?_
      refine S_nil (hK2 _ _ (V_keep [4] (by simp only [proj, lk, reduceIte, Nat.reduceEqDiff]; rfl) ?_)); clear hK2
      refine V_ret ?_
      refine hR _ _ (ret1 rfl rfl ?_)
      exact ⟨by rw [lv_no mv.r, decide_eq_false (fun e => by have h8 := e.1; have h9 := e.2.1; omega)], rfl⟩
  · skip
    refine S_gf rfl ?_
    refine S_gf rfl ?_
    refine S_pf rfl rfl ?_
    refine S_mv rfl ?_
    refine S_gf rfl ?_
    refine S_gf rfl ?_
    refine S_gf rfl ?_
    refine S_gf rfl ?_
    refine S_gf rfl ?_
    refine S_gf rfl ?_
    refine S_pf rfl rfl ?_
    refine S_as rfl ?_
    refine S_nil (hK2 _ _ (V_keep [4] (by simp only [proj, lk, reduceIte, Nat.reduceEqDiff]; rfl) ?_)); clear hK2
    refine V_ret ?_
    refine hR _ _ (ret1 rfl rfl ?_)
    exact ⟨by rw [lv_no mv.r, decide_eq_false (fun e => by have h8 := e.1; have h9 := e.2.1; omega)], rfl⟩
set_option maxHeartbeats 1600000 in
theorem mwadd_spec (h : Heap) (M Y : Nat) (mm : MC) (cl : Nat → Option (List Int)) (G F : Nat → Prop) (s : TS) (mv : MV h M Y mm cl G F s) (a : Option Addr) (cap : Nat) (xs : List Int) (ho : IL h a cap xs) (hl : xs.length ≤ 1099511627776) (ha : ∀ b, blkA a = some b → b ≠ M) (le : Bool) :
    FC Tryz.prog 61 (#[.pointer (some ⟨M, 0, none⟩), .slice a xs.length cap, .bool (decide (le = true))] : Array Value) h fun rv h' => ∃ (mz : MC) (G' : Nat → Prop), rv = .tuple #[.int .i64 ((addV cl xs le).1 : Int), .int .i64 ((addV cl xs le).2 : Int)] ∧ MV h' M Y mz (addS cl xs le) G' F s ∧ mz.seen = mm.seen ∧ (∀ i, mm.due i = true → mz.due i = true) ∧ (∀ i, ccE xs = 0 → frI cl (loI le) (nI le) = some i → mz.due i = true) ∧ (∀ b, G b → G' b) ∧ (∀ b, G' b → G b ∨ h.size ≤ b) ∧ Ext (fun x => x = M) h h' := by
  have hB := mv.b
  have hE := Ext.refl (fun x => x = M) h
  have hMl := mv.b.lt
  refine FC_of [(0, .pointer (some ⟨M, 0, none⟩)), (1, .slice a xs.length cap), (2, .bool (decide (le = true)))] Tryz.func61 rfl Tryz.ntmps61 (by simp) rfl (fun R hR => ?_)
  refine V_sr T.mix (by kernel_rfl) (fun K1 hK1 => ?_)
  refine S_as rfl ?_
  refine S_as rfl ?_
  refine S_nil (hK1 _ _ (V_keep [0, 1, 2] (by simp only [proj, lk, reduceIte, Nat.reduceEqDiff]; rfl) ?_)); clear hK1
  refine V_sr T.mix (by kernel_rfl) (fun K2 hK2 => ?_)
  refine S_mv rfl ?_
  refine S_call T.hb90 rfl ?_
  refine FC.mono (checkclause_spec h a cap xs ho hl) ?_
  rintro v' h' ⟨rfl, rfl⟩
  refine S_as rfl ?_
  refine S_nil (hK2 _ _ (V_keep [0, 1, 2, 8] (by simp only [proj, lk, reduceIte, Nat.reduceEqDiff]; rfl) ?_)); clear hK2
  refine V_seq (fun K3 hK3 => ?_)
  refine V_sr T.mix (by kernel_rfl) (fun K4 hK4 => ?_)
  refine S_mv rfl ?_
  refine S_bin rfl rfl rfl ?_
  refine S_nil (hK4 _ _ (V_keep [0, 1, 2, 8, 15] (by simp only [proj, lk, reduceIte, Nat.reduceEqDiff]; rfl) ?_)); clear hK4
  refine V_condp rfl (fun c59 => ?_) (fun c59 => ?_)
  · skip
    refine V_sr T.mix (by kernel_rfl) (fun K5 hK5 => ?_)
    refine S_mv rfl ?_
    refine S_as rfl ?_
    refine S_as rfl ?_
    refine S_nil (hK5 _ _ (V_keep [6, 7] (by simp only [proj, lk, reduceIte, Nat.reduceEqDiff]; rfl) ?_)); clear hK5
    refine V_ret ?_
    refine hR _ _ (ret2 rfl rfl rfl ?_)
    refine ⟨mm, G, ?_, ?_, rfl, fun i e => e, fun i e => absurd e (by omega), fun b e => e, fun b e => .inl e, hE⟩
    · rw [show addV cl xs le = (0, ccE xs) by unfold addV; rw [if_neg (by omega)]]; rfl
    · rw [show addS cl xs le = cl by unfold addS; rw [if_neg (by omega)]]; exact mv
  · skip
    have hz : ccE xs = 0 := by omega
    have hnr := ccE_nrm hz
    refine V_skipk [0, 1, 2] (by simp only [proj, lk, reduceIte, Nat.reduceEqDiff]; rfl) ?_
    refine hK3 _ _ ?_; clear hK3
    refine V_sr T.mix (by kernel_rfl) (fun K6 hK6 => ?_)
    refine S_as rfl ?_
    refine S_as rfl ?_
    refine S_nil (hK6 _ _ (V_keep [0, 1, 2, 9, 10] (by simp only [proj, lk, reduceIte, Nat.reduceEqDiff]; rfl) ?_)); clear hK6
    refine V_seqJ (fun l h' => ∃ (lo hi_ : Nat), (lo = loI le) ∧ (hi_ = loI le + nI le) ∧ (lo ≤ hi_ ∧ hi_ ≤ 52) ∧ l = [(0, .pointer (some ⟨M, 0, none⟩)), (1, .slice a xs.length cap), (9, .int .i64 (lo : Int)), (10, .int .i64 (hi_ : Int))] ∧ h = h') ?_ ?_
    · skip
      refine V_sr T.mix (by kernel_rfl) (fun K8 hK8 => ?_)
      refine S_mv rfl ?_
      refine S_nil (hK8 _ _ (V_keep [0, 1, 9, 10, 17] (by simp only [proj, lk, reduceIte, Nat.reduceEqDiff]; rfl) ?_)); clear hK8
      refine V_condp rfl (fun c63 => ?_) (fun c63 => ?_)
      · skip
        refine V_reg T.mix (by kernel_rfl) ?_
        refine S_as rfl ?_
        refine S_as rfl ?_
        refine S_nilk [0, 1, 9, 10] (by simp only [proj, lk, reduceIte, Nat.reduceEqDiff]; rfl) ?_
        exact ⟨40, 52, by rw [show le = true from c63]; rfl, by rw [show le = true from c63]; rfl, by omega, rfl, rfl⟩
      · skip
        refine V_skipk [0, 1, 9, 10] (by simp only [proj, lk, reduceIte, Nat.reduceEqDiff]; rfl) ?_
        exact ⟨0, 40, by rw [show le = false by simpa using c63]; rfl, by rw [show le = false by simpa using c63]; rfl, by omega, rfl, rfl⟩
    rintro l h' ⟨lo, hi_, hlo, hhi, hbb, rfl, rfl⟩
    refine V_seq (fun K9 hK9 => ?_)
    refine V_sr T.mix (by kernel_rfl) (fun K10 hK10 => ?_)
    refine S_mv rfl ?_
    refine S_as rfl ?_
    refine S_nil (hK10 _ _ (V_keep [0, 1, 10, 11] (by simp only [proj, lk, reduceIte, Nat.reduceEqDiff]; rfl) ?_)); clear hK10
    refine V_block ?_
    refine V_loop (fun m l h' => ∃ (i : Nat), (lo ≤ i) ∧ (i ≤ hi_) ∧ (∀ j, lo ≤ j → j < i → mm.used j = true) ∧ m = hi_ - i ∧ l = [(0, .pointer (some ⟨M, 0, none⟩)), (1, .slice a xs.length cap), (10, .int .i64 (hi_ : Int)), (11, .int .i64 (i : Int))] ∧ h = h') _ ⟨lo, by omega, by omega, fun j h1 h2 => by omega, rfl, rfl, rfl⟩ ?_
    rintro m l h' ⟨i, hi1, hi2, hn, rfl, rfl, rfl⟩ K11 hK11
    refine V_seq (fun K12 hK12 => ?_)
    refine V_sr T.mix (by kernel_rfl) (fun K13 hK13 => ?_)
    refine S_mv rfl ?_
    refine S_mv rfl ?_
    refine S_bin rfl rfl rfl ?_
    refine S_nil (hK13 _ _ (V_keep [0, 1, 10, 11, 21] (by simp only [proj, lk, reduceIte, Nat.reduceEqDiff]; rfl) ?_)); clear hK13
    refine V_condp rfl (fun c66 => ?_) (fun c66 => ?_)
    · skip
      refine V_skipk [0, 1, 10, 11] (by simp only [proj, lk, reduceIte, Nat.reduceEqDiff]; rfl) ?_
      refine hK12 _ _ ?_; clear hK12
      refine V_seq (fun K14 hK14 => ?_)
      refine V_block ?_
      refine V_sr T.mix (by kernel_rfl) (fun K15 hK15 => ?_)
      refine S_mv rfl ?_
      refine S_mv rfl ?_
      refine S_nc rfl ?_
      first | refine S_fa0 T.f91_1 rfl ?_ | refine S_fa T.f91_1 rfl ?_
      first | refine S_ixan T.ar88 rfl rfl (by omega) ?_ | refine S_ixa1 T.ar88 rfl rfl (by omega) (by omega) ?_
      refine S_ldK T.ag4 rfl (fun K' hK' => ?_)
      simp (disch := omega) only [mlT hB, mlUsed hB, mlCl hB, mlDue hB, mlSeen hB, oP_some, Nat.add_zero]
      refine hK' _ ?_; clear hK' K'
      refine S_notb rfl ?_
      refine S_nil (hK15 _ _ (V_keep [0, 1, 10, 11, 30] (by simp only [proj, lk, reduceIte, Nat.reduceEqDiff]; rfl) ?_)); clear hK15
      refine V_condb rfl (fun c67 => ?_) (fun c67 => ?_)
      · skip
        have hu0 : mm.used i = false := by simpa using c67
        have hfr : frI cl (loI le) (nI le) = some i := frI_hit _ _ (by omega) (by omega) (by rw [← mv.r.u i (by omega)]; exact hu0) (fun j h1 h2 => by rw [← mv.r.u j (by omega)]; exact hn j (by omega) h2)
        refine V_sr T.mix (by kernel_rfl) (fun K16 hK16 => ?_)
        refine S_mv rfl ?_
        refine S_mv rfl ?_
        refine S_nc rfl ?_
        first | refine S_fa0 T.f91_1 rfl ?_ | refine S_fa T.f91_1 rfl ?_
        first | refine S_ixan T.ar88 rfl rfl (by omega) ?_ | refine S_ixa1 T.ar88 rfl rfl (by omega) (by omega) ?_
        refine S_st T.sz4 rfl rfl rfl rfl (by simp (disch := omega) only [mwok hB]) ?_
        generalize hh : putH _ _ _ = h1
        have hBh1 : MB h1 M Y { mm with used := upB mm.used i true } := by rw [← hh]; exact msUsed hB i true (by omega)
        have hEh1 : Ext (fun x => x = M) h h1 := by rw [← hh]; exact Ext.put _ _ rfl
        clear hh
        replace hE := hE.trans hEh1
        clear hB
        have hB := hBh1
        refine S_nil (hK16 _ _ (V_keep [0, 1, 11] (by simp only [proj, lk, reduceIte, Nat.reduceEqDiff]; rfl) ?_)); clear hK16
        refine V_sr T.mix (by kernel_rfl) (fun K17 hK17 => ?_)
        refine S_mv rfl ?_
        refine S_mv rfl ?_
        refine S_mv rfl ?_
        refine S_call T.hb59 rfl ?_
        refine FC.mono (copyints_spec h1 a cap xs (ho.ext hE (fun b e => ha b e)) hl) ?_
        rintro v' h2 ⟨ca, rfl, hca, hE2, _, hcb⟩
        clear hB
        have hB := hBh1.ext hE2 (fun f => f)
        have hs1 := hE.1
        replace hE := hE.trans (hE2.mono fun _ f => f.elim)
        refine S_nc rfl ?_
        first | refine S_fa0 T.f91_2 rfl ?_ | refine S_fa T.f91_2 rfl ?_
        first | refine S_ixan T.ar89 rfl rfl (by omega) ?_ | refine S_ixa1 T.ar89 rfl rfl (by omega) (by omega) ?_
        refine S_st T.sz39 rfl rfl rfl rfl (by simp (disch := omega) only [mwok hB]) ?_
        generalize hh : putH _ _ _ = h3
        have hBh3 : MB h3 M Y { mm with used := upB mm.used i true, ca := upA mm.ca i ca, cn := upN mm.cn i xs.length } := by rw [← hh]; exact msCl hB i ca xs.length (by omega)
        have hEh3 : Ext (fun x => x = M) h2 h3 := by rw [← hh]; exact Ext.put _ _ rfl
        clear hh
        replace hE := hE.trans hEh3
        clear hB
        have hB := hBh3
        refine S_nil (hK17 _ _ (V_keep [0, 11] (by simp only [proj, lk, reduceIte, Nat.reduceEqDiff]; rfl) ?_)); clear hK17
        refine V_sr T.mix (by kernel_rfl) (fun K18 hK18 => ?_)
        refine S_mv rfl ?_
        refine S_mv rfl ?_
        refine S_nc rfl ?_
        first | refine S_fa0 T.f91_3 rfl ?_ | refine S_fa T.f91_3 rfl ?_
        first | refine S_ixan T.ar88 rfl rfl (by omega) ?_ | refine S_ixa1 T.ar88 rfl rfl (by omega) (by omega) ?_
        refine S_st T.sz4 rfl rfl rfl rfl (by simp (disch := omega) only [mwok hB]) ?_
        generalize hh : putH _ _ _ = h4
        have hBh4 : MB h4 M Y { mm with used := upB mm.used i true, ca := upA mm.ca i ca, cn := upN mm.cn i xs.length, due := upB mm.due i true } := by rw [← hh]; exact msDue hB i true (by omega)
        have hEh4 : Ext (fun x => x = M) h3 h4 := by rw [← hh]; exact Ext.put _ _ rfl
        clear hh
        replace hE := hE.trans hEh4
        clear hB
        have hB := hBh4
        refine S_nil (hK18 _ _ (V_keep [11] (by simp only [proj, lk, reduceIte, Nat.reduceEqDiff]; rfl) ?_)); clear hK18
        refine V_sr T.mix (by kernel_rfl) (fun K19 hK19 => ?_)
        refine S_mv rfl ?_
        refine S_as rfl ?_
        refine S_as rfl ?_
        refine S_nil (hK19 _ _ (V_keep [6, 7] (by simp only [proj, lk, reduceIte, Nat.reduceEqDiff]; rfl) ?_)); clear hK19
        refine V_ret ?_
        refine hR _ _ (ret2 rfl rfl rfl ?_)
        have hE34 := hEh3.trans hEh4
        have hca4 : IL h4 ca xs.length xs := hca.ext hE34 (fun b e z => by have h9 := hcb b e; omega)
        have hr4 : MR h4 mm cl G := mv.r.ext hE (fun b hb e => mv.nM.1 (e ▸ hb))
        refine ⟨_, fun b => G b ∨ blkA ca = some b, ?_, ⟨hB, ?_, mv.t.ext hE (fun b hb e => mv.nM.2 (e ▸ hb)), ⟨fun e => ?_, mv.nM.2⟩, fun b e hf => ?_, fun b e => ?_⟩, rfl, fun j e => ?_, fun j _ e => ?_, fun b e => .inl e, fun b e => ?_, hE⟩
        · rw [show addV cl xs le = (i, 0) by unfold addV; rw [if_pos hz, hfr]]; rfl
        · rw [show addS cl xs le = upO cl i (some xs) by unfold addS; rw [if_pos hz, hfr]]
          have h9 := hr4.put (k := i) (a := ca) (G' := fun b => G b ∨ blkA ca = some b) hnr hca4 (fun b e => .inl e) (fun b e => .inr e)
          exact ⟨h9.u, h9.z, h9.c, h9.g⟩
        · rcases e with e | e; (exact mv.nM.1 e); (have h9 := hcb M e; omega)
        · rcases e with e | e; (exact mv.nG b e hf); (have h9 := hcb b e; have h8 := mv.t.lt hf; omega)
        · rcases e with e | e; (exact Nat.lt_of_lt_of_le (mv.lt b e) hE.1); (exact hca4.lt e)
        · simp only [upB]; split; (rfl); (exact e)
        · rw [hfr] at e; cases e; simp [upB]
        · rcases e with e | e; (exact .inl e); (have h9 := hcb b e; exact .inr (by omega))
      · skip
        refine V_skipk [0, 1, 10, 11] (by simp only [proj, lk, reduceIte, Nat.reduceEqDiff]; rfl) ?_
        refine hK14 _ _ ?_; clear hK14
        refine V_reg T.mix (by kernel_rfl) ?_
        refine S_mv rfl ?_
        first | refine S_add rfl rfl (by omega) (by omega) ?_ | refine S_bin rfl rfl rfl ?_
        refine S_as rfl ?_
        refine S_nilk [0, 1, 10, 11] (by simp only [proj, lk, reduceIte, Nat.reduceEqDiff]; rfl) ?_
        exact hK11 _ _ ⟨_, by omega, i + 1, by omega, by omega, fun j h1 h2 => by by_cases e : j = i; (rw [e]; simpa using c67); (exact hn j h1 (by omega)), rfl, rfl, rfl⟩
    · skip
      refine V_exitk [] rfl (by simp only [proj, lk, reduceIte, Nat.reduceEqDiff]; rfl) ?_
      refine hK9 _ _ ?_; clear hK9
      refine V_sr T.mix (by kernel_rfl) (fun K20 hK20 => ?_)
      refine S_as rfl ?_
      refine S_as rfl ?_
      refine S_nil (hK20 _ _ (V_keep [6, 7] (by simp only [proj, lk, reduceIte, Nat.reduceEqDiff]; rfl) ?_)); clear hK20
      refine V_ret ?_
      refine hR _ _ (ret2 rfl rfl rfl ?_)
      have hfn : frI cl (loI le) (nI le) = none := frI_no _ _ (fun j h1 h2 => by rw [← mv.r.u j (by omega)]; exact hn j (by omega) (by omega))
      refine ⟨mm, G, ?_, ?_, rfl, fun i e => e, fun i _ e => (by rw [hfn] at e; cases e), fun b e => e, fun b e => .inl e, hE⟩
      · rw [show addV cl xs le = (0, 12) by unfold addV; rw [if_pos hz, hfn]]; rfl
      · rw [show addS cl xs le = cl by unfold addS; rw [if_pos hz, hfn]]; exact mv
set_option maxHeartbeats 1600000 in
theorem mwremove_spec (h : Heap) (M Y : Nat) (mm : MC) (cl : Nat → Option (List Int)) (G F : Nat → Prop) (s : TS) (mv : MV h M Y mm cl G F s) (id : Int) :
    FC Tryz.prog 71 (#[.pointer (some ⟨M, 0, none⟩), .int .i64 id] : Array Value) h fun rv h' => ∃ (mz : MC), rv = .int .i64 ((remV cl s id : Nat) : Int) ∧ MV h' M Y mz (remS cl s id) G F s ∧ mz.seen = mm.seen ∧ (∀ i, mm.due i = true → mz.due i = true ∨ (remV cl s id = 0 ∧ (i : Int) = id)) ∧ Ext (fun x => x = M) h h' := by
  have hB := mv.b
  have hE := Ext.refl (fun x => x = M) h
  refine FC_of [(0, .pointer (some ⟨M, 0, none⟩)), (1, .int .i64 id)] Tryz.func71 rfl Tryz.ntmps71 (by simp) rfl (fun R hR => ?_)
  refine V_sr T.mix (by kernel_rfl) (fun K1 hK1 => ?_)
  refine S_as rfl ?_
  refine S_nil (hK1 _ _ (V_keep [0, 1] (by simp only [proj, lk, reduceIte, Nat.reduceEqDiff]; rfl) ?_)); clear hK1
  refine V_seq (fun K2 hK2 => ?_)
  refine V_sr T.mix (by kernel_rfl) (fun K3 hK3 => ?_)
  refine S_mv rfl ?_
  refine S_mv rfl ?_
  refine S_call T.hb89 rfl ?_
  refine FC.mono (mwlive_spec h M Y _ cl G F s mv (id)) ?_
  rintro v' h' ⟨rfl, rfl⟩
  refine S_notb rfl ?_
  refine S_nil (hK3 _ _ (V_keep [0, 1, 11] (by simp only [proj, lk, reduceIte, Nat.reduceEqDiff]; rfl) ?_)); clear hK3
  refine V_condb rfl (fun c80 => ?_) (fun c80 => ?_)
  · skip
    refine V_sr T.mix (by kernel_rfl) (fun K4 hK4 => ?_)
    refine S_as rfl ?_
    refine S_nil (hK4 _ _ (V_keep [4] (by simp only [proj, lk, reduceIte, Nat.reduceEqDiff]; rfl) ?_)); clear hK4
    refine V_ret ?_
    refine hR _ _ (ret1 rfl rfl ?_)
    simp only [Bool.not_eq_true'] at c80
    have hlv : liveC cl id = none := by simpa using c80
    have hrv : remV cl s id = 13 := by unfold remV; rw [hlv]
    refine ⟨mm, by rw [hrv]; rfl, ?_, rfl, fun i e => .inl e, hE⟩
    rw [show remS cl s id = cl by unfold remS; rw [if_neg (by omega)]]; exact mv
  · skip
    simp only [Bool.not_eq_false'] at c80
    obtain ⟨n, cc, rfl, hid, hcl, hlv⟩ := liveS c80
    obtain ⟨hnr, hcn, hIL⟩ := mv.r.c n hid cc hcl
    have hln := hnr.len
    refine V_skipk [0, 1] (by simp only [proj, lk, reduceIte, Nat.reduceEqDiff]; rfl) ?_
    refine hK2 _ _ ?_; clear hK2
    refine V_seq (fun K5 hK5 => ?_)
    refine V_sr T.mix (by kernel_rfl) (fun K6 hK6 => ?_)
    refine S_as rfl ?_
    refine S_nil (hK6 _ _ (V_keep [0, 1, 5] (by simp only [proj, lk, reduceIte, Nat.reduceEqDiff]; rfl) ?_)); clear hK6
    refine V_block ?_
    refine V_loop (fun m l h' => ∃ (i : Nat), (i ≤ cc.length) ∧ (∀ j, j < i → lockL s n (cc.getD j 0) = false) ∧ m = cc.length - i ∧ l = [(0, .pointer (some ⟨M, 0, none⟩)), (1, .int .i64 (n : Int)), (5, .int .i64 (i : Int))] ∧ h = h') _ ⟨0, by omega, fun j hj => by omega, rfl, rfl, rfl⟩ ?_
    rintro m l h' ⟨i, hi, hnl, rfl, rfl, rfl⟩ K7 hK7
    refine V_seq (fun K8 hK8 => ?_)
    refine V_sr T.mix (by kernel_rfl) (fun K9 hK9 => ?_)
    refine S_mv rfl ?_
    refine S_mv rfl ?_
    refine S_mv rfl ?_
    refine S_nc rfl ?_
    first | refine S_fa0 T.f91_2 rfl ?_ | refine S_fa T.f91_2 rfl ?_
    first | refine S_ixan T.ar89 rfl rfl (by omega) ?_ | refine S_ixa1 T.ar89 rfl rfl (by omega) (by omega) ?_
    refine S_ldK T.ag39 rfl (fun K' hK' => ?_)
    simp (disch := omega) only [mlT hB, mlUsed hB, mlCl hB, mlDue hB, mlSeen hB, oP_some, Nat.add_zero]
    refine hK' _ ?_; clear hK' K'
    refine S_lenl T.el39 rfl ?_
    refine S_bin rfl rfl rfl ?_
    refine S_nil (hK9 _ _ (V_keep [0, 1, 5, 20] (by simp only [proj, lk, reduceIte, Nat.reduceEqDiff]; rfl) ?_)); clear hK9
    refine V_condp rfl (fun c83 => ?_) (fun c83 => ?_)
    · skip
      rw [hcn] at c83
      obtain ⟨bb, hbe, _, _, _⟩ := hIL.get (by omega)
      have hIc := hIL
      rw [hbe] at hIc
      have hgl : gd (cc.getD i 0) := hnr.1 _ (mem_at (by omega))
      have hgl2 := hgl
      unfold gd at hgl2
      refine V_skipk [0, 1, 5] (by simp only [proj, lk, reduceIte, Nat.reduceEqDiff]; rfl) ?_
      refine hK8 _ _ ?_; clear hK8
      refine V_seq (fun K10 hK10 => ?_)
      refine V_block ?_
      refine V_sr T.mix (by kernel_rfl) (fun K11 hK11 => ?_)
      refine S_mv rfl ?_
      refine S_mv rfl ?_
      refine S_nc rfl ?_
      first | refine S_fa0 T.f91_2 rfl ?_ | refine S_fa T.f91_2 rfl ?_
      first | refine S_ixan T.ar89 rfl rfl (by omega) ?_ | refine S_ixa1 T.ar89 rfl rfl (by omega) (by omega) ?_
      refine S_ldK T.ag39 rfl (fun K' hK' => ?_)
      simp (disch := omega) only [mlCl hB, oP_some, Nat.add_zero]
      refine hK' _ ?_; clear hK' K'
      rw [hbe, hcn]
      refine S_mv rfl ?_
      first | refine S_ixn T.el39 rfl rfl (by omega) ?_ | refine S_ix1 T.el39 rfl rfl (by omega) (by omega) ?_ | refine S_ix T.el39 rfl rfl (by omega) (by omega) ?_
      refine S_ldK T.ag3 rfl (fun K' hK' => ?_)
      simp (disch := omega) only [mlCl hB, hIc.at, oP_some, Nat.add_zero]
      refine hK' _ ?_; clear hK' K'
      refine S_as rfl ?_
      refine S_nil (hK11 _ _ (V_keep [0, 1, 5, 6] (by simp only [proj, lk, reduceIte, Nat.reduceEqDiff]; rfl) ?_)); clear hK11
      refine V_sr T.mix (by kernel_rfl) (fun K12 hK12 => ?_)
      refine S_mv rfl ?_
      refine S_call T.hb65 rfl ?_
      refine FC.mono (var_spec _ ((cc.getD i 0)) (by omega) (by omega)) ?_
      rintro v' h' ⟨rfl, rfl⟩
      refine S_as rfl ?_
      refine S_nil (hK12 _ _ (V_keep [0, 1, 5, 6, 7] (by simp only [proj, lk, reduceIte, Nat.reduceEqDiff]; rfl) ?_)); clear hK12
      refine V_sr T.mix (by kernel_rfl) (fun K13 hK13 => ?_)
      refine S_mv rfl ?_
      refine S_nc rfl ?_
      first | refine S_fa0 T.f91_0 rfl ?_ | refine S_fa T.f91_0 rfl ?_
      refine S_ldK T.ag34 rfl (fun K' hK' => ?_)
      simp (disch := omega) only [mlT hB, mlUsed hB, mlCl hB, mlDue hB, mlSeen hB, oP_some, Nat.add_zero]
      refine hK' _ ?_; clear hK' K'
      refine S_mv rfl ?_
      refine S_call T.hb52 rfl ?_
      refine FC.mono (mvalue_spec h Y F s mv.t (cc.getD i 0)) ?_
      rintro v' h' ⟨rfl, rfl⟩
      refine S_bin rfl rfl rfl ?_
      refine S_nil (hK13 _ _ (V_keep [0, 1, 5, 7, 40] (by simp only [proj, lk, reduceIte, Nat.reduceEqDiff]; rfl) ?_)); clear hK13
      refine V_condp rfl (fun c86 => ?_) (fun c86 => ?_)
      · skip
        refine V_sr T.mix (by kernel_rfl) (fun K14 hK14 => ?_)
        refine S_mv rfl ?_
        refine S_nc rfl ?_
        first | refine S_fa0 T.f91_0 rfl ?_ | refine S_fa T.f91_0 rfl ?_
        refine S_ldK T.ag34 rfl (fun K' hK' => ?_)
        simp (disch := omega) only [mlT hB, mlUsed hB, mlCl hB, mlDue hB, mlSeen hB, oP_some, Nat.add_zero]
        refine hK' _ ?_; clear hK' K'
        refine S_mv rfl ?_
        refine S_call T.hb54 rfl ?_
        refine FC.mono (mreason_spec h Y F s mv.t ((cc.getD i 0).natAbs : Int)) ?_
        rintro v' h' ⟨rfl, rfl⟩
        refine S_mv rfl ?_
        refine S_bin rfl rfl rfl ?_
        refine S_nil (hK14 _ _ (V_keep [0, 1, 5, 48] (by simp only [proj, lk, reduceIte, Nat.reduceEqDiff]; rfl) ?_)); clear hK14
        refine V_condp rfl (fun c87 => ?_) (fun c87 => ?_)
        · skip
          refine V_sr T.mix (by kernel_rfl) (fun K15 hK15 => ?_)
          refine S_as rfl ?_
          refine S_nil (hK15 _ _ (V_keep [4] (by simp only [proj, lk, reduceIte, Nat.reduceEqDiff]; rfl) ?_)); clear hK15
          refine V_ret ?_
          refine hR _ _ (ret1 rfl rfl ?_)
          have hrv : remV cl s (n : Int) = 14 := by unfold remV; rw [hlv]; simp only [Int.toNat_natCast]; rw [if_pos (lockB_yes (mem_at (show i < cc.length by omega)) (by unfold lockL; rw [decide_eq_true c86, decide_eq_true c87]; rfl))]
          refine ⟨mm, by rw [hrv]; rfl, ?_, rfl, fun i e => .inl e, hE⟩
          rw [show remS cl s (n : Int) = cl by unfold remS; rw [if_neg (by omega)]]; exact mv
        · skip
          refine V_skipk [0, 1, 5] (by simp only [proj, lk, reduceIte, Nat.reduceEqDiff]; rfl) ?_
          refine hK10 _ _ ?_; clear hK10
          refine V_reg T.mix (by kernel_rfl) ?_
          refine S_mv rfl ?_
          first | refine S_add rfl rfl (by omega) (by omega) ?_ | refine S_bin rfl rfl rfl ?_
          refine S_as rfl ?_
          refine S_nilk [0, 1, 5] (by simp only [proj, lk, reduceIte, Nat.reduceEqDiff]; rfl) ?_
          exact hK7 _ _ ⟨_, by omega, i + 1, by omega, fun j hj => by by_cases e : j = i; (rw [e]; unfold lockL; rw [decide_eq_false c87, Bool.and_false]); (exact hnl j (by omega)), rfl, rfl, rfl⟩
      · skip
        refine V_skipk [0, 1, 5] (by simp only [proj, lk, reduceIte, Nat.reduceEqDiff]; rfl) ?_
        refine hK10 _ _ ?_; clear hK10
        refine V_reg T.mix (by kernel_rfl) ?_
        refine S_mv rfl ?_
        first | refine S_add rfl rfl (by omega) (by omega) ?_ | refine S_bin rfl rfl rfl ?_
        refine S_as rfl ?_
        refine S_nilk [0, 1, 5] (by simp only [proj, lk, reduceIte, Nat.reduceEqDiff]; rfl) ?_
        exact hK7 _ _ ⟨_, by omega, i + 1, by omega, fun j hj => by by_cases e : j = i; (rw [e]; unfold lockL; rw [decide_eq_false c86]; rfl); (exact hnl j (by omega)), rfl, rfl, rfl⟩
    · skip
      have hie : i = cc.length := by rw [hcn] at c83; omega
      have hnlk : lockB s n cc = false := lockB_no (f := fun j => cc.getD j 0) ⟨rfl, fun j hj => mem_at hj, fun x hx => by obtain ⟨j, hj, e⟩ := List.getElem_of_mem hx; exact ⟨j, hj, by simp [hj, e]⟩, fun j k hj hk e => by simp only [List.getD_eq_getElem?_getD, List.getElem?_eq_getElem hj, List.getElem?_eq_getElem hk, Option.getD_some] at e; exact (List.getElem_inj hnr.nodup).1 e⟩ (fun j hj => hnl j (by omega))
      have hrv : remV cl s (n : Int) = 0 := by unfold remV; rw [hlv]; simp [hnlk]
      refine V_exitk [0, 1] rfl (by simp only [proj, lk, reduceIte, Nat.reduceEqDiff]; rfl) ?_
      refine hK5 _ _ ?_; clear hK5
      refine V_sr T.mix (by kernel_rfl) (fun K16 hK16 => ?_)
      refine S_mv rfl ?_
      refine S_mv rfl ?_
      refine S_nc rfl ?_
      first | refine S_fa0 T.f91_1 rfl ?_ | refine S_fa T.f91_1 rfl ?_
      first | refine S_ixan T.ar88 rfl rfl (by omega) ?_ | refine S_ixa1 T.ar88 rfl rfl (by omega) (by omega) ?_
      refine S_st T.sz4 rfl rfl rfl rfl (by simp (disch := omega) only [mwok hB]) ?_
      generalize hh : putH _ _ _ = h1
      have hBh1 : MB h1 M Y { mm with used := upB mm.used n false } := by rw [← hh]; exact msUsed hB n false hid
      have hEh1 : Ext (fun x => x = M) h h1 := by rw [← hh]; exact Ext.put _ _ rfl
      clear hh
      replace hE := hE.trans hEh1
      clear hB
      have hB := hBh1
      refine S_nil (hK16 _ _ (V_keep [0, 1] (by simp only [proj, lk, reduceIte, Nat.reduceEqDiff]; rfl) ?_)); clear hK16
      refine V_sr T.mix (by kernel_rfl) (fun K17 hK17 => ?_)
      refine S_mv rfl ?_
      refine S_mv rfl ?_
      refine S_nc rfl ?_
      first | refine S_fa0 T.f91_3 rfl ?_ | refine S_fa T.f91_3 rfl ?_
      first | refine S_ixan T.ar88 rfl rfl (by omega) ?_ | refine S_ixa1 T.ar88 rfl rfl (by omega) (by omega) ?_
      refine S_st T.sz4 rfl rfl rfl rfl (by simp (disch := omega) only [mwok hB]) ?_
      generalize hh : putH _ _ _ = h2
      have hBh2 : MB h2 M Y { mm with used := upB mm.used n false, due := upB mm.due n false } := by rw [← hh]; exact msDue hB n false hid
      have hEh2 : Ext (fun x => x = M) h1 h2 := by rw [← hh]; exact Ext.put _ _ rfl
      clear hh
      replace hE := hE.trans hEh2
      clear hB
      have hB := hBh2
      refine S_nil (hK17 _ _ (V_keep [0, 1] (by simp only [proj, lk, reduceIte, Nat.reduceEqDiff]; rfl) ?_)); clear hK17
      refine V_sr T.mix (by kernel_rfl) (fun K18 hK18 => ?_)
      refine S_mv rfl ?_
      refine S_mv rfl ?_
      refine S_nc rfl ?_
      first | refine S_fa0 T.f91_2 rfl ?_ | refine S_fa T.f91_2 rfl ?_
      first | refine S_ixan T.ar89 rfl rfl (by omega) ?_ | refine S_ixa1 T.ar89 rfl rfl (by omega) (by omega) ?_
      refine S_st T.sz39 rfl rfl rfl rfl (by simp (disch := omega) only [mwok hB]) ?_
      generalize hh : putH _ _ _ = h3
      have hBh3 : MB h3 M Y { mm with used := upB mm.used n false, due := upB mm.due n false, ca := upA mm.ca n none, cn := upN mm.cn n 0 } := by rw [← hh]; exact msCl hB n none 0 hid
      have hEh3 : Ext (fun x => x = M) h2 h3 := by rw [← hh]; exact Ext.put _ _ rfl
      clear hh
      replace hE := hE.trans hEh3
      clear hB
      have hB := hBh3
      refine S_nil (hK18 _ _ (V_keep [] (by simp only [proj, lk, reduceIte, Nat.reduceEqDiff]; rfl) ?_)); clear hK18
      refine V_sr T.mix (by kernel_rfl) (fun K19 hK19 => ?_)
      refine S_as rfl ?_
      refine S_nil (hK19 _ _ (V_keep [4] (by simp only [proj, lk, reduceIte, Nat.reduceEqDiff]; rfl) ?_)); clear hK19
      refine V_ret ?_
      refine hR _ _ (ret1 rfl rfl ?_)
      have hr3 : MR h3 mm cl G := mv.r.ext hE (fun b hb e => mv.nM.1 (e ▸ hb))
      have h9 := hr3.del (k := n)
      refine ⟨{ mm with used := upB mm.used n false, due := upB mm.due n false, ca := upA mm.ca n none, cn := upN mm.cn n 0 }, by rw [hrv]; rfl, ?_, rfl, fun j e => ?_, hE⟩
      · rw [show remS cl s (n : Int) = upO cl n none by unfold remS; rw [if_pos hrv, Int.toNat_natCast]]; exact mv.set hB ⟨h9.u, h9.z, h9.c, h9.g⟩ hE
      · simp only [upB]; by_cases z : j = n; (right; exact ⟨hrv, by omega⟩); (left; rw [if_neg z]; exact e)
set_option maxHeartbeats 400000 in
theorem mwclause_spec (h : Heap) (M Y : Nat) (mm : MC) (cl : Nat → Option (List Int)) (G F : Nat → Prop) (s : TS) (mv : MV h M Y mm cl G F s) (id : Int) :
    FC Tryz.prog 57 (#[.pointer (some ⟨M, 0, none⟩), .int .i64 id] : Array Value) h fun rv h' => ∃ a', rv = .tuple #[.slice a' (clF cl id).length (clF cl id).length, .int .i64 (clE cl id : Int)] ∧ IL h' a' (clF cl id).length (clF cl id) ∧ ((clF cl id).length = 0 → a' = none) ∧ (∀ b, blkA a' = some b → h.size ≤ b) ∧ Ext (fun _ => False) h h' := by
  have hB := mv.b
  have hE := Ext.refl (fun x => x = M) h
  refine FC_of [(0, .pointer (some ⟨M, 0, none⟩)), (1, .int .i64 id)] Tryz.func57 rfl Tryz.ntmps57 (by simp) rfl (fun R hR => ?_)
  refine V_sr T.mix (by kernel_rfl) (fun K1 hK1 => ?_)
  refine S_as rfl ?_
  refine S_as rfl ?_
  refine S_nil (hK1 _ _ (V_keep [0, 1] (by simp only [proj, lk, reduceIte, Nat.reduceEqDiff]; rfl) ?_)); clear hK1
  refine V_seq (fun K2 hK2 => ?_)
  refine V_sr T.mix (by kernel_rfl) (fun K3 hK3 => ?_)
  refine S_mv rfl ?_
  refine S_mv rfl ?_
  refine S_call T.hb89 rfl ?_
  refine FC.mono (mwlive_spec h M Y _ cl G F s mv (id)) ?_
  rintro v' h' ⟨rfl, rfl⟩
  refine S_notb rfl ?_
  refine S_nil (hK3 _ _ (V_keep [0, 1, 9] (by simp only [proj, lk, reduceIte, Nat.reduceEqDiff]; rfl) ?_)); clear hK3
  refine V_condb rfl (fun c99 => ?_) (fun c99 => ?_)
  · skip
    refine V_sr T.mix (by kernel_rfl) (fun K4 hK4 => ?_)
    refine S_as rfl ?_
    refine S_as rfl ?_
    refine S_nil (hK4 _ _ (V_keep [4, 5] (by simp only [proj, lk, reduceIte, Nat.reduceEqDiff]; rfl) ?_)); clear hK4
    refine V_ret ?_
    refine hR _ _ (ret2 rfl rfl rfl ?_)
    simp only [Bool.not_eq_true'] at c99
    have hlv : liveC cl id = none := by simpa using c99
    have hcF : clF cl id = [] := by unfold clF; rw [hlv]; rfl
    have hcE : clE cl id = 13 := by unfold clE; rw [hlv]
    exact ⟨none, by rw [hcF, hcE]; rfl, by rw [hcF]; exact IL.nil _, fun _ => rfl, by simp [blkA], Ext.refl _ _⟩
  · skip
    simp only [Bool.not_eq_false'] at c99
    obtain ⟨n, cc, rfl, hid, hcl, hlv⟩ := liveS c99
    obtain ⟨hnr, hcn, hIL⟩ := mv.r.c n hid cc hcl
    have hln := hnr.len
    have hcF : clF cl (n : Int) = cc := by unfold clF; rw [hlv]; rfl
    have hcE : clE cl (n : Int) = 0 := by unfold clE; rw [hlv]
    refine V_skipk [0, 1] (by simp only [proj, lk, reduceIte, Nat.reduceEqDiff]; rfl) ?_
    refine hK2 _ _ ?_; clear hK2
    refine V_sr T.mix (by kernel_rfl) (fun K5 hK5 => ?_)
    refine S_mv rfl ?_
    refine S_mv rfl ?_
    refine S_nc rfl ?_
    first | refine S_fa0 T.f91_2 rfl ?_ | refine S_fa T.f91_2 rfl ?_
    first | refine S_ixan T.ar89 rfl rfl (by omega) ?_ | refine S_ixa1 T.ar89 rfl rfl (by omega) (by omega) ?_
    refine S_ldK T.ag39 rfl (fun K' hK' => ?_)
    simp (disch := omega) only [mlCl hB, oP_some, Nat.add_zero]
    refine hK' _ ?_; clear hK' K'
    rw [hcn]
    refine S_call T.hb59 rfl ?_
    refine FC.mono (copyints_spec h (mm.ca n) cc.length cc hIL (by omega)) ?_
    rintro v' h1 ⟨a1, rfl, ha1, hE1, han, hab⟩
    refine S_as rfl ?_
    refine S_as rfl ?_
    refine S_nil (hK5 _ _ (V_keep [4, 5] (by simp only [proj, lk, reduceIte, Nat.reduceEqDiff]; rfl) ?_)); clear hK5
    refine V_ret ?_
    refine hR _ _ (ret2 rfl rfl rfl ?_)
    exact ⟨a1, by rw [hcF, hcE]; rfl, by rw [hcF]; exact ha1, fun e => han (by rw [hcF] at e; exact e), hab, hE1⟩
set_option maxHeartbeats 400000 in
theorem mwids_spec (h : Heap) (M Y : Nat) (mm : MC) (cl : Nat → Option (List Int)) (G F : Nat → Prop) (s : TS) (mv : MV h M Y mm cl G F s) :
    FC Tryz.prog 58 (#[.pointer (some ⟨M, 0, none⟩)] : Array Value) h fun rv h' => ∃ a', rv = .slice a' (idsF cl 52).length (idsF cl 52).length ∧ IL h' a' (idsF cl 52).length (idsF cl 52) ∧ ((idsF cl 52).length = 0 → a' = none) ∧ (∀ b, blkA a' = some b → h.size ≤ b) ∧ Ext (fun _ => False) h h' := by
  have hB := mv.b
  have hE := Ext.refl (fun x => x = M) h
  refine FC_of [(0, .pointer (some ⟨M, 0, none⟩))] Tryz.func58 rfl Tryz.ntmps58 (by simp) rfl (fun R hR => ?_)
  refine V_sr T.mix (by kernel_rfl) (fun K1 hK1 => ?_)
  refine S_as rfl ?_
  refine S_nil (hK1 _ _ (V_keep [0] (by simp only [proj, lk, reduceIte, Nat.reduceEqDiff]; rfl) ?_)); clear hK1
  refine V_sr T.mix (by kernel_rfl) (fun K2 hK2 => ?_)
  refine S_as rfl ?_
  refine S_nil (hK2 _ _ (V_keep [0, 3] (by simp only [proj, lk, reduceIte, Nat.reduceEqDiff]; rfl) ?_)); clear hK2
  refine V_seq (fun K3 hK3 => ?_)
  refine V_sr T.mix (by kernel_rfl) (fun K4 hK4 => ?_)
  refine S_as rfl ?_
  refine S_nil (hK4 _ _ (V_keep [0, 3, 4] (by simp only [proj, lk, reduceIte, Nat.reduceEqDiff]; rfl) ?_)); clear hK4
  refine V_block ?_
  refine V_loop (fun m l h' => ∃ (i : Nat) (hk : Heap) (oa : Option Addr) (oc : Nat), (i ≤ 52) ∧ (OwnR h.size hk oa (idsF cl i).length oc (ints (idsF cl i)) 3 1) ∧ (Ext (fun _ => False) h hk) ∧ m = 52 - i ∧ l = [(0, .pointer (some ⟨M, 0, none⟩)), (3, .slice oa (idsF cl i).length oc), (4, .int .i64 (i : Int))] ∧ hk = h') _ ⟨0, h, none, 0, by omega, OwnR.nil _ _ _ _, Ext.refl _ _, rfl, rfl, rfl⟩ ?_
  rintro m l h' ⟨i, hk, oa, oc, hi, hoo, hEk, rfl, rfl, rfl⟩ K5 hK5
  clear hB
  have hB := mv.b.ext hEk (fun f => f)
  have hil := idsF_len cl i
  have hsz := hEk.1
  refine V_seq (fun K6 hK6 => ?_)
  refine V_sr T.mix (by kernel_rfl) (fun K7 hK7 => ?_)
  refine S_mv rfl ?_
  refine S_bin rfl rfl rfl ?_
  refine S_nil (hK7 _ _ (V_keep [0, 3, 4, 6] (by simp only [proj, lk, reduceIte, Nat.reduceEqDiff]; rfl) ?_)); clear hK7
  refine V_condp rfl (fun c107 => ?_) (fun c107 => ?_)
  · skip
    refine V_skipk [0, 3, 4] (by simp only [proj, lk, reduceIte, Nat.reduceEqDiff]; rfl) ?_
    refine hK6 _ _ ?_; clear hK6
    refine V_seq (fun K8 hK8 => ?_)
    refine V_block ?_
    refine V_sr T.mix (by kernel_rfl) (fun K9 hK9 => ?_)
    refine S_mv rfl ?_
    refine S_mv rfl ?_
    refine S_nc rfl ?_
    first | refine S_fa0 T.f91_1 rfl ?_ | refine S_fa T.f91_1 rfl ?_
    first | refine S_ixan T.ar88 rfl rfl (by omega) ?_ | refine S_ixa1 T.ar88 rfl rfl (by omega) (by omega) ?_
    refine S_ldK T.ag4 rfl (fun K' hK' => ?_)
    simp (disch := omega) only [mlT hB, mlUsed hB, mlCl hB, mlDue hB, mlSeen hB, oP_some, Nat.add_zero]
    refine hK' _ ?_; clear hK' K'
    refine S_nil (hK9 _ _ (V_keep [0, 3, 4, 14] (by simp only [proj, lk, reduceIte, Nat.reduceEqDiff]; rfl) ?_)); clear hK9
    refine V_condb rfl (fun c108 => ?_) (fun c108 => ?_)
    · skip
      have his : (cl i).isSome = true := by rw [← mv.r.u i (by omega)]; simpa using c108
      refine V_reg T.mix (by kernel_rfl) ?_
      refine S_mv rfl ?_
      refine S_mv rfl ?_
      refine S_bs T.ei39 rfl (by decide) (by decide) (T.bs39_1_0 _) ?_
      refine S_appx (lo := h.size) T.ei39 T.ni39 T.us39 rfl rfl rfl (OwnR.ext hoo (Ext.push (fun _ => False) _ _) (fun _ _ f => f)) (by simp; omega) (cellsH_new _ _ _) rfl (by omega) (by decide) (by decide) rfl (fun a4 c4 h4 ho4 hE4x hb4x => ?_)
      have hE4 : Ext (fun z => blkA oa = some z) hk h4 := (Ext.push _ _ _).trans hE4x
      have hb4 := new_blk2 (h := hk) hb4x (by simp)
      have hI4 : OwnR h.size h4 a4 (idsF cl i ++ [(i : Int)]).length c4 (ints (idsF cl i ++ [(i : Int)])) 3 1 := by rw [ints_snoc, List.length_append]; exact ho4
      refine S_as rfl ?_
      refine S_nilk [0, 3, 4] (by simp only [proj, lk, reduceIte, Nat.reduceEqDiff]; rfl) ?_
      refine hK8 _ _ ?_; clear hK8
      refine V_reg T.mix (by kernel_rfl) ?_
      refine S_mv rfl ?_
      first | refine S_add rfl rfl (by omega) (by omega) ?_ | refine S_bin rfl rfl rfl ?_
      refine S_as rfl ?_
      refine S_nilk [0, 3, 4] (by simp only [proj, lk, reduceIte, Nat.reduceEqDiff]; rfl) ?_
      exact hK5 _ _ ⟨_, by omega, i + 1, h4, a4, c4, by omega, (by rw [idsF_succ cl i, if_pos his]; exact hI4), hEk.step hE4 (fun z hz e => by have h9 := OwnR.blk2 hoo e; omega), rfl, by rw [idsF_succ cl i, if_pos his]; simp, rfl⟩
    · skip
      have his : ¬ (cl i).isSome = true := by rw [← mv.r.u i (by omega)]; simpa using c108
      refine V_skipk [0, 3, 4] (by simp only [proj, lk, reduceIte, Nat.reduceEqDiff]; rfl) ?_
      refine hK8 _ _ ?_; clear hK8
      refine V_reg T.mix (by kernel_rfl) ?_
      refine S_mv rfl ?_
      first | refine S_add rfl rfl (by omega) (by omega) ?_ | refine S_bin rfl rfl rfl ?_
      refine S_as rfl ?_
      refine S_nilk [0, 3, 4] (by simp only [proj, lk, reduceIte, Nat.reduceEqDiff]; rfl) ?_
      exact hK5 _ _ ⟨_, by omega, i + 1, hk, oa, oc, by omega, (by rw [idsF_succ cl i, if_neg his, List.append_nil]; exact hoo), hEk, rfl, by rw [idsF_succ cl i, if_neg his, List.append_nil]; rfl, rfl⟩
  · skip
    have hi52 : i = 52 := by omega
    subst hi52
    refine V_exitk [3] rfl (by simp only [proj, lk, reduceIte, Nat.reduceEqDiff]; rfl) ?_
    refine hK3 _ _ ?_; clear hK3
    refine V_sr T.mix (by kernel_rfl) (fun K10 hK10 => ?_)
    refine S_mv rfl ?_
    refine S_call T.hb59 rfl ?_
    refine FC.mono (copyints_spec hk oa oc (idsF cl 52) (own0 hoo) (by omega)) ?_
    rintro v' h1 ⟨a1, rfl, ha1, hE1, han, hab⟩
    refine S_as rfl ?_
    refine S_nil (hK10 _ _ (V_keep [2] (by simp only [proj, lk, reduceIte, Nat.reduceEqDiff]; rfl) ?_)); clear hK10
    refine V_ret ?_
    refine hR _ _ (ret1 rfl rfl ?_)
    exact ⟨a1, rfl, ha1, han, fun b e => by have h9 := hab b e; omega, hEk.trans hE1⟩
set_option maxHeartbeats 400000 in
theorem mon_spec (h : Heap) (M Y : Nat) (mm : MC) (cl : Nat → Option (List Int)) (G F : Nat → Prop) (s : TS) (mv : MV h M Y mm cl G F s) :
    FC Tryz.prog 96 (#[.pointer (some ⟨M, 0, none⟩)] : Array Value) h fun rv h' => ∃ a' c', rv = .slice a' (lits s.L).length c' ∧ OwnR h.size h' a' (lits s.L).length c' (ints (lits s.L)) 3 1 ∧ Ext (fun _ => False) h h' := by
  have hB := mv.b
  have hE := Ext.refl (fun x => x = M) h
  have hl12 := mv.t.ok.len
  have hll := lits_len s.L
  refine FC_of [(0, .pointer (some ⟨M, 0, none⟩))] Tryz.func96 rfl Tryz.ntmps96 (by simp) rfl (fun R hR => ?_)
  refine V_sr T.mix (by kernel_rfl) (fun K1 hK1 => ?_)
  refine S_as rfl ?_
  refine S_nil (hK1 _ _ (V_keep [0] (by simp only [proj, lk, reduceIte, Nat.reduceEqDiff]; rfl) ?_)); clear hK1
  refine V_sr T.mix (by kernel_rfl) (fun K2 hK2 => ?_)
  refine S_as rfl ?_
  refine S_nil (hK2 _ _ (V_keep [0, 3] (by simp only [proj, lk, reduceIte, Nat.reduceEqDiff]; rfl) ?_)); clear hK2
  refine V_sr T.mix (by kernel_rfl) (fun K3 hK3 => ?_)
  refine S_mv rfl ?_
  refine S_nc rfl ?_
  first | refine S_fa0 T.f91_0 rfl ?_ | refine S_fa T.f91_0 rfl ?_
  refine S_ldK T.ag34 rfl (fun K' hK' => ?_)
  simp (disch := omega) only [mlT hB, mlUsed hB, mlCl hB, mlDue hB, mlSeen hB, oP_some, Nat.add_zero]
  refine hK' _ ?_; clear hK' K'
  refine S_call T.hb50 rfl ?_
  refine FC.mono (mlen_spec h Y F s mv.t) ?_
  rintro v' h' ⟨rfl, rfl⟩
  refine S_as rfl ?_
  refine S_nil (hK3 _ _ (V_keep [0, 3, 4] (by simp only [proj, lk, reduceIte, Nat.reduceEqDiff]; rfl) ?_)); clear hK3
  refine V_seq (fun K4 hK4 => ?_)
  refine V_sr T.mix (by kernel_rfl) (fun K5 hK5 => ?_)
  refine S_as rfl ?_
  refine S_nil (hK5 _ _ (V_keep [0, 3, 4, 5] (by simp only [proj, lk, reduceIte, Nat.reduceEqDiff]; rfl) ?_)); clear hK5
  refine V_block ?_
  refine V_loop (fun m l h' => ∃ (i : Nat) (hk : Heap) (oa : Option Addr) (oc : Nat), (i ≤ s.L.length) ∧ (OwnR h.size hk oa ((lits s.L).take i).length oc (ints ((lits s.L).take i)) 3 1) ∧ (Ext (fun _ => False) h hk) ∧ m = s.L.length - i ∧ l = [(0, .pointer (some ⟨M, 0, none⟩)), (3, .slice oa ((lits s.L).take i).length oc), (4, .int .i64 (s.L.length : Int)), (5, .int .i64 (i : Int))] ∧ hk = h') _ ⟨0, h, none, 0, by omega, OwnR.nil _ _ _ _, Ext.refl _ _, rfl, rfl, rfl⟩ ?_
  rintro m l h' ⟨i, hk, oa, oc, hi, hoo, hEk, rfl, rfl, rfl⟩ K6 hK6
  clear hB
  have hB := mv.b.ext hEk (fun f => f)
  have hsz := hEk.1
  have htl : ((lits s.L).take i).length ≤ 12 := by rw [List.length_take]; omega
  refine V_seq (fun K7 hK7 => ?_)
  refine V_sr T.mix (by kernel_rfl) (fun K8 hK8 => ?_)
  refine S_mv rfl ?_
  refine S_mv rfl ?_
  refine S_bin rfl rfl rfl ?_
  refine S_nil (hK8 _ _ (V_keep [0, 3, 4, 5, 13] (by simp only [proj, lk, reduceIte, Nat.reduceEqDiff]; rfl) ?_)); clear hK8
  refine V_condp rfl (fun c119 => ?_) (fun c119 => ?_)
  · skip
    refine V_skipk [0, 3, 4, 5] (by simp only [proj, lk, reduceIte, Nat.reduceEqDiff]; rfl) ?_
    refine hK7 _ _ ?_; clear hK7
    refine V_seq (fun K9 hK9 => ?_)
    refine V_block ?_
    refine V_reg T.mix (by kernel_rfl) ?_
    refine S_mv rfl ?_
    refine S_mv rfl ?_
    refine S_nc rfl ?_
    first | refine S_fa0 T.f91_0 rfl ?_ | refine S_fa T.f91_0 rfl ?_
    refine S_ldK T.ag34 rfl (fun K' hK' => ?_)
    simp (disch := omega) only [mlT hB, mlUsed hB, mlCl hB, mlDue hB, mlSeen hB, oP_some, Nat.add_zero]
    refine hK' _ ?_; clear hK' K'
    refine S_mv rfl ?_
    refine S_call T.hb56 rfl ?_
    refine FC.mono (mat_spec hk Y F s (mv.t.ext hEk (fun _ _ f => f)) (i : Int)) ?_
    rintro v' h' ⟨rfl, rfl⟩
    refine S_bs T.ei39 rfl (by decide) (by decide) (T.bs39_1_0 _) ?_
    refine S_appx (lo := h.size) T.ei39 T.ni39 T.us39 rfl rfl rfl (OwnR.ext hoo (Ext.push (fun _ => False) _ _) (fun _ _ f => f)) (by simp; omega) (cellsH_new _ _ _) rfl (by omega) (by decide) (by decide) rfl (fun a4 c4 h4 ho4 hE4x hb4x => ?_)
    have hE4 : Ext (fun z => blkA oa = some z) hk h4 := (Ext.push _ _ _).trans hE4x
    have hb4 := new_blk2 (h := hk) hb4x (by simp)
    have hI4 : OwnR h.size h4 a4 (((lits s.L).take i) ++ [atL s.L (i : Int)]).length c4 (ints (((lits s.L).take i) ++ [atL s.L (i : Int)])) 3 1 := by rw [ints_snoc, List.length_append]; exact ho4
    refine S_as rfl ?_
    refine S_nilk [0, 3, 4, 5] (by simp only [proj, lk, reduceIte, Nat.reduceEqDiff]; rfl) ?_
    refine hK9 _ _ ?_; clear hK9
    refine V_reg T.mix (by kernel_rfl) ?_
    refine S_mv rfl ?_
    first | refine S_add rfl rfl (by omega) (by omega) ?_ | refine S_bin rfl rfl rfl ?_
    refine S_as rfl ?_
    refine S_nilk [0, 3, 4, 5] (by simp only [proj, lk, reduceIte, Nat.reduceEqDiff]; rfl) ?_
    exact hK6 _ _ ⟨_, by omega, i + 1, h4, a4, c4, by omega, (by rw [lits_snoc (by omega)]; exact hI4), hEk.step hE4 (fun z hz e => by have h9 := OwnR.blk2 hoo e; omega), rfl, by rw [lits_snoc (by omega)]; simp, rfl⟩
  · skip
    refine V_exitk [3] rfl (by simp only [proj, lk, reduceIte, Nat.reduceEqDiff]; rfl) ?_
    refine hK4 _ _ ?_; clear hK4
    refine V_sr T.mix (by kernel_rfl) (fun K10 hK10 => ?_)
    refine S_mv rfl ?_
    refine S_as rfl ?_
    refine S_nil (hK10 _ _ (V_keep [2] (by simp only [proj, lk, reduceIte, Nat.reduceEqDiff]; rfl) ?_)); clear hK10
    refine V_ret ?_
    refine hR _ _ (ret1 rfl rfl ?_)
    have hie : i = (lits s.L).length := by omega
    rw [hie, List.take_length] at hoo ⊢
    exact ⟨oa, oc, rfl, hoo, hEk⟩
end Go.Proofs.Qxb6500400aGreat
