import Derived.Test.Qxb6500400aGreatYk
set_option linter.unusedVariables false
set_option linter.unusedSimpArgs false
namespace Go.Proofs.Qxb6500400aGreat
open Go.Eng Go.Trl Go.Chk Go.Wat

def liveN (cl : Nat → Option (List Int)) : Nat → List (List Int)
  | 0 => []
  | n + 1 => match cl n with
    | none => liveN cl n
    | some c => liveN cl n ++ [c]
theorem liveN_none {cl : Nat → Option (List Int)} {n : Nat} (h : cl n = none) : liveN cl (n + 1) = liveN cl n := by rw [liveN, h]
theorem liveN_some {cl : Nat → Option (List Int)} {n : Nat} {c : List Int} (h : cl n = some c) : liveN cl (n + 1) = liveN cl n ++ [c] := by rw [liveN, h]
theorem liveN_len (cl : Nat → Option (List Int)) : ∀ n, (liveN cl n).length ≤ n
  | 0 => Nat.le_refl _
  | n + 1 => by
    have := liveN_len cl n
    cases e : cl n with
    | none => rw [liveN_none e]; omega
    | some c => rw [liveN_some e]; simp; omega
theorem mem_liveN {cl : Nat → Option (List Int)} {c : List Int} : ∀ {n : Nat}, c ∈ liveN cl n ↔ ∃ i, i < n ∧ cl i = some c
  | 0 => by simp [liveN]
  | n + 1 => by
    have ih := mem_liveN (cl := cl) (c := c) (n := n)
    cases e : cl n with
    | none =>
      rw [liveN_none e, ih]
      constructor
      · rintro ⟨i, h1, h2⟩; exact ⟨i, by omega, h2⟩
      · rintro ⟨i, h1, h2⟩
        have : i ≠ n := fun z => by rw [z, e] at h2; cases h2
        exact ⟨i, by omega, h2⟩
    | some d =>
      rw [liveN_some e, List.mem_append, List.mem_singleton, ih]
      constructor
      · rintro (⟨i, h1, h2⟩ | h)
        · exact ⟨i, by omega, h2⟩
        · exact ⟨n, by omega, by rw [h]; exact e⟩
      · rintro ⟨i, h1, h2⟩
        by_cases z : i = n
        · rw [z, e] at h2; injection h2 with h2; exact .inr h2.symm
        · exact .inl ⟨i, by omega, h2⟩
theorem spoil_set99 (xs : List Int) {i : Nat} (h : i < xs.length) : (List.replicate i (-99 : Int) ++ xs.drop i).set i (-99) = List.replicate (i + 1) (-99) ++ xs.drop (i + 1) := by
  rw [List.set_append, if_neg (by simp), drop_cons xs i h]
  simp [List.replicate_succ', List.append_assoc]
theorem OwnR.putv {lo : Nat} {h : Heap} {b k cap : Nat} {xs : List Value} {e : TypeId} (ho : OwnR lo h (some ⟨b, 0, none⟩) k cap xs e 1) (i : Nat) (v : Value) : OwnR lo (putH h ⟨b, i, none⟩ v) (some ⟨b, 0, none⟩) k cap (xs.set i v) e 1 := by
  rcases ho with ⟨h1, _⟩ | ⟨b2, cs, h1, h2, h3, h4, h5, h6, h7⟩
  · cases h1
  · cases h1
    refine .inr ⟨b, cs.setIfInBounds i v, rfl, h2, h3.put i v, by rw [Array.size_setIfInBounds]; exact h4, h5, by rw [List.length_set]; exact h6, fun j hj => ?_⟩
    rw [List.length_set] at hj
    have hcs : j < cs.size := by omega
    rw [Array.getElem?_setIfInBounds, List.getElem?_set]
    by_cases e : i = j
    · subst e; simp [hcs, hj]
    · simp [e]; rw [h7 j hj]
theorem IL.put {h : Heap} {b cap : Nat} {l : List Int} (ho : IL h (some ⟨b, 0, none⟩) cap l) (i : Nat) (x : Int) : IL (putH h ⟨b, i, none⟩ (.int .i64 x)) (some ⟨b, 0, none⟩) cap (l.set i x) := by
  have := OwnR.putv ho i (.int .i64 x)
  unfold IL ints at *
  rw [List.length_set, List.map_set]; exact this
theorem mem_take_nd {c : List Int} (hn : c.Nodup) {i : Nat} (h : i < c.length) : c.getD i 0 ∉ c.take i := fun e => by
  obtain ⟨j, hj, e2⟩ := List.getElem_of_mem e
  rw [List.length_take] at hj
  rw [List.getElem_take] at e2
  simp only [List.getD_eq_getElem?_getD, List.getElem?_eq_getElem h, Option.getD_some] at e2
  have := (List.getElem_inj hn).1 e2
  omega
theorem bj_back {s : TS} {b : Int} (h1 : 0 ≤ b) (h2 : b < (s.k : Int)) : bjE s b = 0 ∧ (bjS s b).L = s.L.take (cnt s.L (b + 1)) := by
  have e : bjE s b = 0 := by unfold bjE; rw [if_neg (by omega)]
  exact ⟨e, by unfold bjS; rw [if_pos e]; rfl⟩
theorem sp_val {c : List Int} (hc : Con (· ∈ c)) {x v : Int} (h : ValR c x v) : v = 1 ↔ x ∈ c := by
  rcases h with ⟨rfl, e⟩ | ⟨rfl, e⟩ | ⟨rfl, e, _⟩
  · exact ⟨fun _ => e, fun _ => rfl⟩
  · exact ⟨fun z => by omega, fun z => absurd e (hc x z)⟩
  · exact ⟨fun z => by omega, fun z => absurd z e⟩
theorem nrm_con {c : List Int} (h : Nrm c) : Con (· ∈ c) := fun x h1 h2 => by
  have := h.inj h1 h2 (by omega)
  have h3 := h.1 x h1
  unfold gd at h3; omega
set_option maxHeartbeats 400000 in
theorem spoil_spec (h : Heap) (la : Option Addr) (xs : List Int) (hI : IL h la xs.length xs) (hxl : xs.length ≤ 1000) :
    FC Tryz.prog 109 (#[.slice la xs.length xs.length] : Array Value) h fun rv h' => rv = .tuple #[] ∧ IL h' la xs.length (List.replicate xs.length (-99)) ∧ Ext (fun b => blkA la = some b) h h' := by
  refine FC_of [(0, .slice la xs.length xs.length)] Tryz.func109 rfl Tryz.ntmps109 (by simp) rfl (fun R hR => ?_)
  refine V_sr T.mix (by kernel_rfl) (fun K1 hK1 => ?_)
  refine S_as rfl ?_
  refine S_nil (hK1 _ _ (V_keep [0, 2] (by simp only [proj, lk, reduceIte, Nat.reduceEqDiff]; rfl) ?_)); clear hK1
  refine V_block ?_
  refine V_loop (fun m l h' => ∃ (i : Nat) (hk : Heap), (i ≤ xs.length) ∧ (IL hk la xs.length (List.replicate i (-99) ++ xs.drop i)) ∧ (Ext (fun b => blkA la = some b) h hk) ∧ m = xs.length - i ∧ l = [(0, .slice la xs.length xs.length), (2, .int .i64 (i : Int))] ∧ hk = h') _ ⟨0, h, by omega, by simpa using hI, Ext.refl _ _, rfl, rfl, rfl⟩ ?_
  rintro m l h' ⟨i, hk, hi, hIk, hE, rfl, rfl, rfl⟩ K2 hK2
  refine V_seq (fun K3 hK3 => ?_)
  refine V_sr T.mix (by kernel_rfl) (fun K4 hK4 => ?_)
  refine S_mv rfl ?_
  refine S_mv rfl ?_
  refine S_lenl T.el39 rfl ?_
  refine S_bin rfl rfl rfl ?_
  refine S_nil (hK4 _ _ (V_keep [0, 2, 6] (by simp only [proj, lk, reduceIte, Nat.reduceEqDiff]; rfl) ?_)); clear hK4
  refine V_condp rfl (fun c53 => ?_) (fun c53 => ?_)
  · skip
    have hln : (List.replicate i (-99 : Int) ++ xs.drop i).length = xs.length := by simp; omega
    obtain ⟨ba, hba, ha2, ha3, ha4⟩ := IL.get hIk (by omega)
    have hcp := IL.cap hIk
    have hok := ha4 i (by omega)
    subst hba
    refine V_skipk [0, 2] (by simp only [proj, lk, reduceIte, Nat.reduceEqDiff]; rfl) ?_
    refine hK3 _ _ ?_; clear hK3
    refine V_seq (fun K5 hK5 => ?_)
    refine V_block ?_
    refine V_reg T.mix (by kernel_rfl) ?_
    refine S_mv rfl ?_
    refine S_mv rfl ?_
    first | refine S_ixn T.el39 rfl rfl (by omega) ?_ | refine S_ix1 T.el39 rfl rfl (by omega) (by omega) ?_ | refine S_ix T.el39 rfl rfl (by omega) (by omega) ?_
    refine S_st T.sz3 rfl rfl rfl rfl (by simp (disch := omega) only [hok]) ?_
    generalize hh : putH _ _ _ = h2
    have hI2 : IL h2 (some ⟨ba, 0, none⟩) xs.length (List.replicate (i + 1) (-99) ++ xs.drop (i + 1)) := by rw [← hh, ← spoil_set99 xs (by omega)]; exact hIk.put i _
    have hE2 : Ext (fun b => blkA (some ⟨ba, 0, none⟩) = some b) h h2 := by rw [← hh]; exact hE.trans (Ext.put _ _ rfl)
    clear hh
    refine S_nilk [0, 2] (by simp only [proj, lk, reduceIte, Nat.reduceEqDiff]; rfl) ?_
    refine hK5 _ _ ?_; clear hK5
    refine V_reg T.mix (by kernel_rfl) ?_
    refine S_mv rfl ?_
    first | refine S_add rfl rfl (by omega) (by omega) ?_ | refine S_bin rfl rfl rfl ?_
    refine S_as rfl ?_
    refine S_nilk [0, 2] (by simp only [proj, lk, reduceIte, Nat.reduceEqDiff]; rfl) ?_
    exact hK2 _ _ ⟨_, by omega, i + 1, h2, by omega, hI2, hE2, rfl, rfl, rfl⟩
  · skip
    refine V_exitk [] rfl (by simp only [proj, lk, reduceIte, Nat.reduceEqDiff]; rfl) ?_
    -- end
    refine hR _ _ (ret0 rfl ?_)
    have hii : i = xs.length := by omega
    rw [hii, List.drop_length, List.append_nil] at hIk
    exact ⟨rfl, hIk, hE⟩
set_option maxHeartbeats 400000 in
theorem fresh_spec (h : Heap) (la : Option Addr) (n : Nat) (hn : n = 0 → la = none) :
    FC Tryz.prog 76 (#[.slice la n n] : Array Value) h fun rv h' => rv = .bool true ∧ h = h' := by
  refine FC_of [(0, .slice la n n)] Tryz.func76 rfl Tryz.ntmps76 (by simp) rfl (fun R hR => ?_)
  refine V_sr T.mix (by kernel_rfl) (fun K1 hK1 => ?_)
  refine S_as rfl ?_
  refine S_nil (hK1 _ _ (V_keep [0] (by simp only [proj, lk, reduceIte, Nat.reduceEqDiff]; rfl) ?_)); clear hK1
  refine V_seq (fun K2 hK2 => ?_)
  refine V_sr T.mix (by kernel_rfl) (fun K3 hK3 => ?_)
  refine S_mv rfl ?_
  refine S_lenl T.el39 rfl ?_
  refine S_bin rfl rfl rfl ?_
  refine S_nil (hK3 _ _ (V_keep [0, 5] (by simp only [proj, lk, reduceIte, Nat.reduceEqDiff]; rfl) ?_)); clear hK3
  refine V_condp rfl (fun c88 => ?_) (fun c88 => ?_)
  · skip
    refine V_sr T.mix (by kernel_rfl) (fun K4 hK4 => ?_)
    refine S_mv rfl ?_
    refine S_bin rfl rfl (by simp only [binV, T.kd39]; rfl) ?_
    refine S_as rfl ?_
    refine S_nil (hK4 _ _ (V_keep [2] (by simp only [proj, lk, reduceIte, Nat.reduceEqDiff]; rfl) ?_)); clear hK4
    refine V_ret ?_
    refine hR _ _ (ret1 rfl rfl ?_)
    exact ⟨by rw [hn (by omega)]; rfl, rfl⟩
  · skip
    refine V_skipk [0] (by simp only [proj, lk, reduceIte, Nat.reduceEqDiff]; rfl) ?_
    refine hK2 _ _ ?_; clear hK2
    refine V_sr T.mix (by kernel_rfl) (fun K5 hK5 => ?_)
    refine S_mv rfl ?_
    refine S_capl T.el39 rfl ?_
    refine S_mv rfl ?_
    refine S_lenl T.el39 rfl ?_
    refine S_bin rfl rfl rfl ?_
    refine S_as rfl ?_
    refine S_nil (hK5 _ _ (V_keep [2] (by simp only [proj, lk, reduceIte, Nat.reduceEqDiff]; rfl) ?_)); clear hK5
    refine V_ret ?_
    refine hR _ _ (ret1 rfl rfl ?_)
    exact ⟨by simp, rfl⟩
set_option maxHeartbeats 400000 in
theorem gauge_spec (h : Heap) (C X D M Y : Nat) (W : WC) (hwb : WB h C X W) (mm : MC) (cl : Nat → Option (List Int)) (G F : Nat → Prop) (s : TS) (mv : MV h M Y mm cl G F s) (hv : W.vis ≤ mm.seen) :
    FC Tryz.prog 15 (#[.agg #[.pointer (some ⟨X, 0, none⟩), .pointer (some ⟨C, 0, none⟩)], .agg #[.pointer (some ⟨Y, 0, none⟩), .pointer (some ⟨M, 0, none⟩), .pointer (some ⟨D, 0, none⟩)]] : Array Value) h fun rv h' => rv = .bool true ∧ Ext (fun _ => False) h h' := by
  refine FC_of [(0, .agg #[.pointer (some ⟨X, 0, none⟩), .pointer (some ⟨C, 0, none⟩)]), (1, .agg #[.pointer (some ⟨Y, 0, none⟩), .pointer (some ⟨M, 0, none⟩), .pointer (some ⟨D, 0, none⟩)])] Tryz.func15 rfl Tryz.ntmps15 (by simp) rfl (fun R hR => ?_)
  refine V_sr T.mix (by kernel_rfl) (fun K1 hK1 => ?_)
  refine S_boxA rfl ?_
  generalize hh : Array.push h _ = h1
  have hO1 : B h1 h.size #[.pointer (some ⟨X, 0, none⟩), .pointer (some ⟨C, 0, none⟩)] 31 := by rw [← hh]; exact B.new _ _ _
  have hEh1 : Ext (fun _ => False) h h1 := by rw [← hh]; exact Ext.push _ _ _
  have hsh1 : h1.size = h.size + 1 := by rw [← hh]; simp
  clear hh
  refine S_boxA rfl ?_
  generalize hh : Array.push h1 _ = h2
  have hO2 : B h2 h1.size #[.pointer (some ⟨Y, 0, none⟩), .pointer (some ⟨M, 0, none⟩), .pointer (some ⟨D, 0, none⟩)] 38 := by rw [← hh]; exact B.new _ _ _
  have hEh2 : Ext (fun _ => False) h1 h2 := by rw [← hh]; exact Ext.push _ _ _
  have hsh2 : h2.size = h1.size + 1 := by rw [← hh]; simp
  clear hh
  obtain ⟨d0, d1⟩ := bq2 (hO1.ext hEh2 (fun f => f))
  obtain ⟨b0, b1, b2⟩ := bq3 hO2
  have hE2 := hEh1.trans hEh2
  refine S_as rfl ?_
  refine S_nil (hK1 _ _ (V_keep [2, 3] (by simp only [proj, lk, reduceIte, Nat.reduceEqDiff]; rfl) ?_)); clear hK1
  refine V_sr T.mix (by kernel_rfl) (fun K2 hK2 => ?_)
  first | refine S_fa0 T.f31_1 rfl ?_ | refine S_fa T.f31_1 rfl ?_
  refine S_ldK T.ag29 rfl (fun K' hK' => ?_)
  simp (disch := omega) only [b0, b1, d0, d1, oP_some, Nat.add_zero]
  refine hK' _ ?_; clear hK' K'
  refine S_call T.hb37 rfl ?_
  refine FC.mono (wvisits_spec h2 C X W (hwb.ext hE2 (fun f => f))) ?_
  rintro v' h' ⟨rfl, rfl⟩
  refine S_as rfl ?_
  refine S_nil (hK2 _ _ (V_keep [3, 5] (by simp only [proj, lk, reduceIte, Nat.reduceEqDiff]; rfl) ?_)); clear hK2
  refine V_sr T.mix (by kernel_rfl) (fun K3 hK3 => ?_)
  first | refine S_fa0 T.f38_1 rfl ?_ | refine S_fa T.f38_1 rfl ?_
  refine S_ldK T.ag35 rfl (fun K' hK' => ?_)
  simp (disch := omega) only [b0, b1, d0, d1, oP_some, Nat.add_zero]
  refine hK' _ ?_; clear hK' K'
  refine S_call T.hb38 rfl ?_
  refine FC.mono (mwvisits_spec h2 M Y mm cl G F s (mv.ext (hE2) (fun f => f) (fun _ _ f => f) (fun _ _ f => f))) ?_
  rintro v' h' ⟨rfl, rfl⟩
  refine S_as rfl ?_
  refine S_nil (hK3 _ _ (V_keep [5, 6] (by simp only [proj, lk, reduceIte, Nat.reduceEqDiff]; rfl) ?_)); clear hK3
  refine V_sr T.mix (by kernel_rfl) (fun K4 hK4 => ?_)
  refine S_mv rfl ?_
  refine S_bin rfl rfl rfl ?_
  refine S_mv rfl ?_
  refine S_dec (fun g48 => ?_) (fun g48 => ?_)
  · skip
    refine S_gt rfl ?_
    refine S_mv rfl ?_
    refine S_gt rfl ?_
    refine S_mv rfl ?_
    refine S_gt rfl ?_
    refine S_bin rfl rfl rfl ?_
    refine S_pt rfl rfl ?_
    refine S_as rfl ?_
    refine S_nil (hK4 _ _ (V_keep [4] (by simp only [proj, lk, reduceIte, Nat.reduceEqDiff]; rfl) ?_)); clear hK4
    refine V_ret ?_
    refine hR _ _ (ret1 rfl rfl ?_)
    exact ⟨by rw [decide_eq_true (by omega)], hE2⟩
  · skip
    refine S_gf rfl ?_
    refine S_gf rfl ?_
    refine S_gf rfl ?_
    refine S_pf rfl rfl ?_
    refine S_as rfl ?_
    refine S_nil (hK4 _ _ (V_keep [4] (by simp only [proj, lk, reduceIte, Nat.reduceEqDiff]; rfl) ?_)); clear hK4
    refine V_ret ?_
    refine hR _ _ (ret1 rfl rfl ?_)
    exact absurd (by omega) g48
set_option maxHeartbeats 1600000 in
theorem live_spec (h : Heap) (D M Y : Nat) (mm : MC) (cl : Nat → Option (List Int)) (G F : Nat → Prop) (s : TS) (mv : MV h M Y mm cl G F s) :
    FC Tryz.prog 116 (#[.agg #[.pointer (some ⟨Y, 0, none⟩), .pointer (some ⟨M, 0, none⟩), .pointer (some ⟨D, 0, none⟩)]] : Array Value) h fun rv h' => ∃ a' c', rv = .slice a' (liveN cl 52).length c' ∧ LV h.size h'.size h' a' c' (liveN cl 52) ∧ Ext (fun _ => False) h h' := by
  refine FC_of [(0, .agg #[.pointer (some ⟨Y, 0, none⟩), .pointer (some ⟨M, 0, none⟩), .pointer (some ⟨D, 0, none⟩)])] Tryz.func116 rfl Tryz.ntmps116 (by simp) rfl (fun R hR => ?_)
  refine V_sr T.mix (by kernel_rfl) (fun K1 hK1 => ?_)
  refine S_boxA rfl ?_
  generalize hh : Array.push h _ = h1
  have hO : B h1 h.size #[.pointer (some ⟨Y, 0, none⟩), .pointer (some ⟨M, 0, none⟩), .pointer (some ⟨D, 0, none⟩)] 38 := by rw [← hh]; exact B.new _ _ _
  have hEh1 : Ext (fun _ => False) h h1 := by rw [← hh]; exact Ext.push _ _ _
  have hsh1 : h1.size = h.size + 1 := by rw [← hh]; simp
  clear hh
  try clear b0 b1 b2
  obtain ⟨b0, b1, b2⟩ := bq3 (hO)
  refine S_as rfl ?_
  refine S_nil (hK1 _ _ (V_keep [1] (by simp only [proj, lk, reduceIte, Nat.reduceEqDiff]; rfl) ?_)); clear hK1
  refine V_sr T.mix (by kernel_rfl) (fun K2 hK2 => ?_)
  refine S_as rfl ?_
  refine S_nil (hK2 _ _ (V_keep [1, 3] (by simp only [proj, lk, reduceIte, Nat.reduceEqDiff]; rfl) ?_)); clear hK2
  refine V_seq (fun K3 hK3 => ?_)
  refine V_sr T.mix (by kernel_rfl) (fun K4 hK4 => ?_)
  refine S_as rfl ?_
  refine S_nil (hK4 _ _ (V_keep [1, 3, 4] (by simp only [proj, lk, reduceIte, Nat.reduceEqDiff]; rfl) ?_)); clear hK4
  refine V_block ?_
  refine V_loop (fun m l h' => ∃ (i : Nat) (hk : Heap) (oa : Option Addr) (oc hi_ : Nat), (i ≤ 52) ∧ (LV h1.size hi_ hk oa oc (liveN cl i)) ∧ (Ext (fun _ => False) h1 hk) ∧ m = 52 - i ∧ l = [(1, .pointer (some ⟨h.size, 0, none⟩)), (3, .slice oa (liveN cl i).length oc), (4, .int .i64 (i : Int))] ∧ hk = h') _ ⟨0, h1, none, 0, h1.size, by omega, LV.nil _ _ _ (Nat.le_refl _), Ext.refl _ _, rfl, rfl, rfl⟩ ?_
  rintro m l h' ⟨i, hk, oa, oc, hi_, hi, hlv, hEk, rfl, rfl, rfl⟩ K5 hK5
  try clear b0 b1 b2
  obtain ⟨b0, b1, b2⟩ := bq3 (hO.ext hEk (fun f => f))
  have hsz := hEk.1
  have htl := liveN_len cl i
  refine V_seq (fun K6 hK6 => ?_)
  refine V_sr T.mix (by kernel_rfl) (fun K7 hK7 => ?_)
  refine S_mv rfl ?_
  refine S_bin rfl rfl rfl ?_
  refine S_nil (hK7 _ _ (V_keep [1, 3, 4, 8] (by simp only [proj, lk, reduceIte, Nat.reduceEqDiff]; rfl) ?_)); clear hK7
  refine V_condp rfl (fun c246 => ?_) (fun c246 => ?_)
  · skip
    refine V_skipk [1, 3, 4] (by simp only [proj, lk, reduceIte, Nat.reduceEqDiff]; rfl) ?_
    refine hK6 _ _ ?_; clear hK6
    refine V_seq (fun K8 hK8 => ?_)
    refine V_block ?_
    refine V_sr T.mix (by kernel_rfl) (fun K9 hK9 => ?_)
    first | refine S_fa0 T.f38_1 rfl ?_ | refine S_fa T.f38_1 rfl ?_
    refine S_ldK T.ag35 rfl (fun K' hK' => ?_)
    simp (disch := omega) only [b1, oP_some, Nat.add_zero]
    refine hK' _ ?_; clear hK' K'
    refine S_mv rfl ?_
    refine S_call T.hb57 rfl ?_
    refine FC.mono (mwclause_spec hk M Y mm cl G F s (mv.ext (hEh1.trans hEk) (fun f => f) (fun _ _ f => f) (fun _ _ f => f)) (i : Int)) ?_
    rintro v' h3 ⟨ac, rfl, hIc, hnc, hbc, hE3⟩
    have hlc0 := liveC_nat (cl := cl) (n := i) (by omega)
    refine S_mv rfl ?_
    refine S_ex rfl rfl ?_
    refine S_ex rfl rfl ?_
    refine S_as rfl ?_
    refine S_as rfl ?_
    refine S_nil (hK9 _ _ (V_keep [1, 3, 4, 5, 6] (by simp only [proj, lk, reduceIte, Nat.reduceEqDiff]; rfl) ?_)); clear hK9
    refine V_sr T.mix (by kernel_rfl) (fun K10 hK10 => ?_)
    refine S_mv rfl ?_
    refine S_bin rfl rfl rfl ?_
    refine S_nil (hK10 _ _ (V_keep [1, 3, 4, 5, 19] (by simp only [proj, lk, reduceIte, Nat.reduceEqDiff]; rfl) ?_)); clear hK10
    refine V_condp rfl (fun c248 => ?_) (fun c248 => ?_)
    · skip
      obtain ⟨cc, hlc⟩ : ∃ rc, liveC cl (i : Int) = some rc := by
        cases e : liveC cl (i : Int) with
        | none => exact absurd (by rw [(clF_none e).2] at c248; exact c248) (by decide)
        | some rc => exact ⟨rc, rfl⟩
      have hci : cl i = some cc := by rw [← hlc0]; exact hlc
      have hlL := liveN_len cl i
      rw [(clF_some hlc).1] at hIc ⊢
      refine V_reg T.mix (by kernel_rfl) ?_
      refine S_mv rfl ?_
      refine S_mv rfl ?_
      refine S_bs T.ei40 rfl (by decide) (by decide) (T.bs40_1_0 _ _ _) ?_
      have hlv3 := hlv.ext hE3 (fun z _ _ f => f)
      obtain ⟨vs, hvs⟩ := hlv3.own
      have hl3 := hE3.1
      have hlk := hlv.le
      refine S_appx (lo := h1.size) T.ei40 T.ni40 T.us40 rfl rfl rfl (OwnR.ext hvs (Ext.push (fun _ => False) _ _) (fun _ _ f => f)) (by simp; omega) (cellsH_new _ _ _) rfl (by omega) (by decide) (by decide) rfl (fun a4 c4 h4 ho4 hE4x hb4x => ?_)
      have hE4 : Ext (fun z => blkA oa = some z) h3 h4 := (Ext.push _ _ _).trans hE4x
      have hb4 := new_blk2 (h := h3) hb4x (by simp)
      have hlv4 : LV h1.size h4.size h4 a4 c4 ((liveN cl i) ++ [cc]) := hlv3.snoc hvs ho4 hE4 hb4 hIc (fun z e => ⟨by have h9 := hbc z e; omega, fun q => by have h9 := hbc z e; obtain ⟨_, _, h8, _⟩ := hlv; have h7 := h8 z q; omega⟩)
      refine S_as rfl ?_
      refine S_nilk [1, 3, 4] (by simp only [proj, lk, reduceIte, Nat.reduceEqDiff]; rfl) ?_
      refine hK8 _ _ ?_; clear hK8
      refine V_reg T.mix (by kernel_rfl) ?_
      refine S_mv rfl ?_
      first | refine S_add rfl rfl (by omega) (by omega) ?_ | refine S_bin rfl rfl rfl ?_
      refine S_as rfl ?_
      refine S_nilk [1, 3, 4] (by simp only [proj, lk, reduceIte, Nat.reduceEqDiff]; rfl) ?_
      exact hK5 _ _ ⟨_, by omega, i + 1, h4, a4, c4, h4.size, by omega, (by rw [liveN_some hci]; exact hlv4), (hEk.trans hE3).step hE4 (fun z hz e => by have h9 := OwnR.blk2 hvs e; omega), rfl, by rw [liveN_some hci]; simp, rfl⟩
    · skip
      have hci : cl i = none := by
        rw [← hlc0]
        cases e : liveC cl (i : Int) with
        | none => rfl
        | some rc => exact absurd (by rw [(clF_some e).2]; rfl) c248
      refine V_skipk [1, 3, 4] (by simp only [proj, lk, reduceIte, Nat.reduceEqDiff]; rfl) ?_
      refine hK8 _ _ ?_; clear hK8
      refine V_reg T.mix (by kernel_rfl) ?_
      refine S_mv rfl ?_
      first | refine S_add rfl rfl (by omega) (by omega) ?_ | refine S_bin rfl rfl rfl ?_
      refine S_as rfl ?_
      refine S_nilk [1, 3, 4] (by simp only [proj, lk, reduceIte, Nat.reduceEqDiff]; rfl) ?_
      exact hK5 _ _ ⟨_, by omega, i + 1, h3, oa, oc, hi_, by omega, (by rw [liveN_none hci]; exact hlv.ext hE3 (fun z _ _ f => f)), hEk.trans hE3, rfl, by rw [liveN_none hci]; rfl, rfl⟩
  · skip
    have hi52 : i = 52 := by omega
    subst hi52
    refine V_exitk [3] rfl (by simp only [proj, lk, reduceIte, Nat.reduceEqDiff]; rfl) ?_
    refine hK3 _ _ ?_; clear hK3
    refine V_sr T.mix (by kernel_rfl) (fun K11 hK11 => ?_)
    refine S_mv rfl ?_
    refine S_as rfl ?_
    refine S_nil (hK11 _ _ (V_keep [2] (by simp only [proj, lk, reduceIte, Nat.reduceEqDiff]; rfl) ?_)); clear hK11
    refine V_ret ?_
    refine hR _ _ (ret1 rfl rfl ?_)
    exact ⟨oa, oc, rfl, hlv.wid (by omega) hlv.le (Nat.le_refl _), hEh1.trans hEk⟩
set_option maxHeartbeats 1600000 in
theorem levels_spec (h : Heap) (D M Y : Nat) (mm : MC) (cl : Nat → Option (List Int)) (G F : Nat → Prop) (s : TS) (mv : MV h M Y mm cl G F s) (c : List Int) (j0 : Nat) (g : Ans) (hg : AnK s cl c j0 g) (xa : Option Addr) (hIx : IL h xa g.lits.length g.lits) :
    FC Tryz.prog 113 (#[.agg #[.pointer (some ⟨Y, 0, none⟩), .pointer (some ⟨M, 0, none⟩), .pointer (some ⟨D, 0, none⟩)], .agg #[.int .i64 ((g.err : Int)), .slice xa g.lits.length g.lits.length, .int .i64 (g.asr), .int .i64 (g.back)]] : Array Value) h fun rv h' => rv = .bool true ∧ Ext (fun _ => False) h h' := by
  have hok := mv.t.ok
  have hl12 := hok.len
  have hdp := hok.dep
  have hgl := hg.nr.len
  have hbk := hg.back hok
  have ham := hg.a_mem hok
  refine FC_of [(0, .agg #[.pointer (some ⟨Y, 0, none⟩), .pointer (some ⟨M, 0, none⟩), .pointer (some ⟨D, 0, none⟩)]), (1, .agg #[.int .i64 ((g.err : Int)), .slice xa g.lits.length g.lits.length, .int .i64 (g.asr), .int .i64 (g.back)])] Tryz.func113 rfl Tryz.ntmps113 (by simp) rfl (fun R hR => ?_)
  refine V_sr T.mix (by kernel_rfl) (fun K1 hK1 => ?_)
  refine S_boxA rfl ?_
  generalize hh : Array.push h _ = h1
  have hO1 : B h1 h.size #[.pointer (some ⟨Y, 0, none⟩), .pointer (some ⟨M, 0, none⟩), .pointer (some ⟨D, 0, none⟩)] 38 := by rw [← hh]; exact B.new _ _ _
  have hEh1 : Ext (fun _ => False) h h1 := by rw [← hh]; exact Ext.push _ _ _
  have hsh1 : h1.size = h.size + 1 := by rw [← hh]; simp
  clear hh
  refine S_boxA rfl ?_
  generalize hh : Array.push h1 _ = h2
  have hO2 : B h2 h1.size #[.int .i64 ((g.err : Int)), .slice xa g.lits.length g.lits.length, .int .i64 (g.asr), .int .i64 (g.back)] 104 := by rw [← hh]; exact B.new _ _ _
  have hEh2 : Ext (fun _ => False) h1 h2 := by rw [← hh]; exact Ext.push _ _ _
  have hsh2 : h2.size = h1.size + 1 := by rw [← hh]; simp
  clear hh
  have hE2 := hEh1.trans hEh2
  have hIx2 := hIx.ext hE2 (fun _ _ f => f)
  have mv2 := (mv.ext (hE2) (fun f => f) (fun _ _ f => f) (fun _ _ f => f))
  try clear b0 b1 b2
  obtain ⟨b0, b1, b2⟩ := bq3 (hO1.ext hEh2 (fun f => f))
  try clear g0 g1 g2 g3
  obtain ⟨g0, g1, g2, g3⟩ := bq4 (hO2)
  refine S_as rfl ?_
  refine S_nil (hK1 _ _ (V_keep [2, 3] (by simp only [proj, lk, reduceIte, Nat.reduceEqDiff]; rfl) ?_)); clear hK1
  refine V_sr T.mix (by kernel_rfl) (fun K2 hK2 => ?_)
  first | refine S_fa0 T.f38_0 rfl ?_ | refine S_fa T.f38_0 rfl ?_
  refine S_ldK T.ag34 rfl (fun K' hK' => ?_)
  simp (disch := omega) only [b0, b1, g0, g1, g2, g3, oP_some, Nat.add_zero]
  refine hK' _ ?_; clear hK' K'
  refine S_as rfl ?_
  refine S_nil (hK2 _ _ (V_keep [3, 5] (by simp only [proj, lk, reduceIte, Nat.reduceEqDiff]; rfl) ?_)); clear hK2
  refine V_sr T.mix (by kernel_rfl) (fun K3 hK3 => ?_)
  refine S_mv rfl ?_
  refine S_call T.hb49 rfl ?_
  refine FC.mono (mlevel_spec h2 Y F s mv2.t) ?_
  rintro v' h' ⟨rfl, rfl⟩
  refine S_as rfl ?_
  refine S_nil (hK3 _ _ (V_keep [3, 5, 6] (by simp only [proj, lk, reduceIte, Nat.reduceEqDiff]; rfl) ?_)); clear hK3
  refine V_sr T.mix (by kernel_rfl) (fun K4 hK4 => ?_)
  refine S_as rfl ?_
  refine S_as rfl ?_
  refine S_nil (hK4 _ _ (V_keep [3, 5, 6, 7, 8] (by simp only [proj, lk, reduceIte, Nat.reduceEqDiff]; rfl) ?_)); clear hK4
  refine V_seq (fun K5 hK5 => ?_)
  refine V_sr T.mix (by kernel_rfl) (fun K6 hK6 => ?_)
  refine S_as rfl ?_
  refine S_nil (hK6 _ _ (V_keep [3, 5, 6, 7, 8, 9] (by simp only [proj, lk, reduceIte, Nat.reduceEqDiff]; rfl) ?_)); clear hK6
  refine V_block ?_
  refine V_loop (fun m l h' => ∃ (i : Nat), (i ≤ g.lits.length) ∧ m = g.lits.length - i ∧ l = [(3, .pointer (some ⟨h1.size, 0, none⟩)), (5, .pointer (some ⟨Y, 0, none⟩)), (6, .int .i64 (s.k : Int)), (7, .int .i64 (if g.asr ∈ g.lits.take i then (1 : Int) else 0)), (8, .int .i64 (hiL s g.asr (g.lits.take i))), (9, .int .i64 (i : Int))] ∧ h2 = h') _ ⟨0, by omega, rfl, rfl, rfl⟩ ?_
  rintro m l h' ⟨i, hi, rfl, rfl, rfl⟩ K7 hK7
  refine V_seq (fun K8 hK8 => ?_)
  refine V_sr T.mix (by kernel_rfl) (fun K9 hK9 => ?_)
  refine S_mv rfl ?_
  first | refine S_fa0 T.f104_1 rfl ?_ | refine S_fa T.f104_1 rfl ?_
  refine S_ldK T.ag39 rfl (fun K' hK' => ?_)
  simp (disch := omega) only [b0, b1, g0, g1, g2, g3, oP_some, Nat.add_zero]
  refine hK' _ ?_; clear hK' K'
  refine S_lenl T.el39 rfl ?_
  refine S_bin rfl rfl rfl ?_
  refine S_nil (hK9 _ _ (V_keep [3, 5, 6, 7, 8, 9, 21] (by simp only [proj, lk, reduceIte, Nat.reduceEqDiff]; rfl) ?_)); clear hK9
  refine V_condp rfl (fun c260 => ?_) (fun c260 => ?_)
  · skip
    obtain ⟨bb, hbe, _, _, _⟩ := IL.get hIx2 (by omega)
    have hIx3 := hIx2
    rw [hbe] at hIx3
    have hmi : (g.lits.getD i 0) ∈ g.lits := mem_at (by omega)
    have hgd := hg.nr.1 _ hmi
    unfold gd at hgd
    have hlr := levV_rng hok ((g.lits.getD i 0).natAbs : Int)
    have hlv := hg.lev hok hmi
    have hsn : ∀ x, x ∈ g.lits.take (i + 1) ↔ x ∈ g.lits.take i ∨ x = (g.lits.getD i 0) := fun x => mem_take_snoc (by omega)
    have hhs : hiL s g.asr (g.lits.take (i + 1)) = if (g.lits.getD i 0) = g.asr then (hiL s g.asr (g.lits.take i)) else if (hiL s g.asr (g.lits.take i)) < levV s.L ((g.lits.getD i 0).natAbs : Int) then levV s.L ((g.lits.getD i 0).natAbs : Int) else (hiL s g.asr (g.lits.take i)) := by rw [getD_snoc _ _ (by omega), hiL_snoc]
    refine V_skipk [3, 5, 6, 7, 8, 9] (by simp only [proj, lk, reduceIte, Nat.reduceEqDiff]; rfl) ?_
    refine hK8 _ _ ?_; clear hK8
    refine V_seq (fun K10 hK10 => ?_)
    refine V_block ?_
    refine V_sr T.mix (by kernel_rfl) (fun K11 hK11 => ?_)
    first | refine S_fa0 T.f104_1 rfl ?_ | refine S_fa T.f104_1 rfl ?_
    refine S_ldK T.ag39 rfl (fun K' hK' => ?_)
    simp (disch := omega) only [g1, oP_some, Nat.add_zero]
    refine hK' _ ?_; clear hK' K'
    rw [hbe]
    refine S_mv rfl ?_
    first | refine S_ixn T.el39 rfl rfl (by omega) ?_ | refine S_ix1 T.el39 rfl rfl (by omega) (by omega) ?_ | refine S_ix T.el39 rfl rfl (by omega) (by omega) ?_
    refine S_ldK T.ag3 rfl (fun K' hK' => ?_)
    simp (disch := omega) only [g1, hIx3.at, oP_some, Nat.add_zero]
    refine hK' _ ?_; clear hK' K'
    refine S_as rfl ?_
    refine S_nil (hK11 _ _ (V_keep [3, 5, 6, 7, 8, 9, 10] (by simp only [proj, lk, reduceIte, Nat.reduceEqDiff]; rfl) ?_)); clear hK11
    refine V_seq (fun K12 hK12 => ?_)
    refine V_sr T.mix (by kernel_rfl) (fun K13 hK13 => ?_)
    refine S_mv rfl ?_
    refine S_mv rfl ?_
    refine S_call T.hb52 rfl ?_
    refine FC.mono (mvalue_spec h2 Y F s mv2.t (g.lits.getD i 0)) ?_
    rintro v' h' ⟨rfl, rfl⟩
    refine S_bin rfl rfl rfl ?_
    refine S_nil (hK13 _ _ (V_keep [3, 5, 6, 7, 8, 9, 10, 32] (by simp only [proj, lk, reduceIte, Nat.reduceEqDiff]; rfl) ?_)); clear hK13
    refine V_condp rfl (fun c262 => ?_) (fun c262 => ?_)
    · skip
      exfalso; exact c262 (hg.val hok hmi)
    · skip
      refine V_skipk [3, 5, 6, 7, 8, 9, 10] (by simp only [proj, lk, reduceIte, Nat.reduceEqDiff]; rfl) ?_
      refine hK12 _ _ ?_; clear hK12
      refine V_sr T.mix (by kernel_rfl) (fun K14 hK14 => ?_)
      refine S_mv rfl ?_
      refine S_call T.hb65 rfl ?_
      refine FC.mono (var_spec _ ((g.lits.getD i 0)) (by omega) (by omega)) ?_
      rintro v' h' ⟨rfl, rfl⟩
      refine S_as rfl ?_
      refine S_nil (hK14 _ _ (V_keep [3, 5, 6, 7, 8, 9, 10, 11] (by simp only [proj, lk, reduceIte, Nat.reduceEqDiff]; rfl) ?_)); clear hK14
      refine V_sr T.mix (by kernel_rfl) (fun K15 hK15 => ?_)
      refine S_mv rfl ?_
      refine S_mv rfl ?_
      refine S_call T.hb53 rfl ?_
      refine FC.mono (mlevelof_spec h2 Y F s mv2.t ((g.lits.getD i 0).natAbs : Int)) ?_
      rintro v' h' ⟨rfl, rfl⟩
      refine S_as rfl ?_
      refine S_nil (hK15 _ _ (V_keep [3, 5, 6, 7, 8, 9, 10, 12] (by simp only [proj, lk, reduceIte, Nat.reduceEqDiff]; rfl) ?_)); clear hK15
      refine V_sr T.mix (by kernel_rfl) (fun K16 hK16 => ?_)
      refine S_mv rfl ?_
      refine S_mv rfl ?_
      refine S_bin rfl rfl rfl ?_
      refine S_nil (hK16 _ _ (V_keep [3, 5, 6, 7, 8, 9, 10, 12, 40] (by simp only [proj, lk, reduceIte, Nat.reduceEqDiff]; rfl) ?_)); clear hK16
      refine V_condp rfl (fun c267 => ?_) (fun c267 => ?_)
      · skip
        have hea := hlv.1 c267
        have hnt : g.asr ∉ g.lits.take i := by rw [← hea]; exact mem_take_nd hg.nr.nodup (by omega)
        rw [if_pos hea] at hhs
        rw [if_neg hnt]
        have htp : (if g.asr ∈ g.lits.take (i + 1) then (1 : Int) else 0) = 0 + 1 := by rw [if_pos ((hsn _).2 (.inr hea.symm))]; rfl
        refine V_sr T.mix (by kernel_rfl) (fun K17 hK17 => ?_)
        refine S_mv rfl ?_
        first | refine S_add rfl rfl (by omega) (by omega) ?_ | refine S_bin rfl rfl rfl ?_
        refine S_as rfl ?_
        refine S_nil (hK17 _ _ (V_keep [3, 5, 6, 7, 8, 9, 10] (by simp only [proj, lk, reduceIte, Nat.reduceEqDiff]; rfl) ?_)); clear hK17
        refine V_sr T.mix (by kernel_rfl) (fun K18 hK18 => ?_)
        refine S_mv rfl ?_
        first | refine S_fa0 T.f104_2 rfl ?_ | refine S_fa T.f104_2 rfl ?_
        refine S_ldK T.ag3 rfl (fun K' hK' => ?_)
        simp (disch := omega) only [b0, b1, g0, g1, g2, g3, oP_some, Nat.add_zero]
        refine hK' _ ?_; clear hK' K'
        refine S_bin rfl rfl rfl ?_
        refine S_nil (hK18 _ _ (V_keep [3, 5, 6, 7, 8, 9, 46] (by simp only [proj, lk, reduceIte, Nat.reduceEqDiff]; rfl) ?_)); clear hK18
        refine V_condp rfl (fun c269 => ?_) (fun c269 => ?_)
        · skip
          exfalso; exact c269 (hlv.1 c267)
        · skip
          refine V_skipk [3, 5, 6, 7, 8, 9] (by simp only [proj, lk, reduceIte, Nat.reduceEqDiff]; rfl) ?_
          refine hK10 _ _ ?_; clear hK10
          refine V_reg T.mix (by kernel_rfl) ?_
          refine S_mv rfl ?_
          first | refine S_add rfl rfl (by omega) (by omega) ?_ | refine S_bin rfl rfl rfl ?_
          refine S_as rfl ?_
          refine S_nilk [3, 5, 6, 7, 8, 9] (by simp only [proj, lk, reduceIte, Nat.reduceEqDiff]; rfl) ?_
          exact hK7 _ _ ⟨_, by omega, i + 1, by omega, rfl, by rw [htp, hhs]; rfl, rfl⟩
      · skip
        have hna : ¬ (g.lits.getD i 0) = g.asr := fun e => c267 (hlv.2 e)
        rw [if_neg hna] at hhs
        have htp : (if g.asr ∈ g.lits.take (i + 1) then (1 : Int) else 0) = (if g.asr ∈ g.lits.take i then (1 : Int) else 0) := by
          by_cases e : g.asr ∈ g.lits.take i
          · rw [if_pos e, if_pos ((hsn _).2 (.inl e))]
          · rw [if_neg e, if_neg (fun z => by rcases (hsn _).1 z with q | q; (exact e q); (exact hna q.symm))]
        refine V_sr T.mix (by kernel_rfl) (fun K19 hK19 => ?_)
        refine S_mv rfl ?_
        refine S_mv rfl ?_
        refine S_bin rfl rfl rfl ?_
        refine S_nil (hK19 _ _ (V_keep [3, 5, 6, 7, 8, 9, 12, 49] (by simp only [proj, lk, reduceIte, Nat.reduceEqDiff]; rfl) ?_)); clear hK19
        refine V_condp rfl (fun c272 => ?_) (fun c272 => ?_)
        · skip
          rw [if_pos (by omega)] at hhs
          refine V_reg T.mix (by kernel_rfl) ?_
          refine S_mv rfl ?_
          refine S_as rfl ?_
          refine S_nilk [3, 5, 6, 7, 8, 9] (by simp only [proj, lk, reduceIte, Nat.reduceEqDiff]; rfl) ?_
          refine hK10 _ _ ?_; clear hK10
          refine V_reg T.mix (by kernel_rfl) ?_
          refine S_mv rfl ?_
          first | refine S_add rfl rfl (by omega) (by omega) ?_ | refine S_bin rfl rfl rfl ?_
          refine S_as rfl ?_
          refine S_nilk [3, 5, 6, 7, 8, 9] (by simp only [proj, lk, reduceIte, Nat.reduceEqDiff]; rfl) ?_
          exact hK7 _ _ ⟨_, by omega, i + 1, by omega, rfl, by rw [htp, hhs]; rfl, rfl⟩
        · skip
          rw [if_neg (by omega)] at hhs
          refine V_skipk [3, 5, 6, 7, 8, 9] (by simp only [proj, lk, reduceIte, Nat.reduceEqDiff]; rfl) ?_
          refine hK10 _ _ ?_; clear hK10
          refine V_reg T.mix (by kernel_rfl) ?_
          refine S_mv rfl ?_
          first | refine S_add rfl rfl (by omega) (by omega) ?_ | refine S_bin rfl rfl rfl ?_
          refine S_as rfl ?_
          refine S_nilk [3, 5, 6, 7, 8, 9] (by simp only [proj, lk, reduceIte, Nat.reduceEqDiff]; rfl) ?_
          exact hK7 _ _ ⟨_, by omega, i + 1, by omega, rfl, by rw [htp, hhs]; rfl, rfl⟩
  · skip
    have hie : i = g.lits.length := by omega
    rw [hie, List.take_length, if_pos ham, show hiL s g.asr g.lits = g.back by rw [hg.bk, hg.asr]]
    refine V_exitk [3, 6, 7, 8] rfl (by simp only [proj, lk, reduceIte, Nat.reduceEqDiff]; rfl) ?_
    refine hK5 _ _ ?_; clear hK5
    refine V_sr T.mix (by kernel_rfl) (fun K20 hK20 => ?_)
    refine S_mv rfl ?_
    refine S_bin rfl rfl rfl ?_
    refine S_mv rfl ?_
    refine S_dec (fun g276 => ?_) (fun g276 => ?_)
    · skip
      refine S_gt rfl ?_
      first | refine S_fa0 T.f104_3 rfl ?_ | refine S_fa T.f104_3 rfl ?_
      refine S_gt rfl ?_
      refine S_ldK T.ag3 rfl (fun K' hK' => ?_)
      simp (disch := omega) only [b0, b1, g0, g1, g2, g3, oP_some, Nat.add_zero]
      refine hK' _ ?_; clear hK' K'
      refine S_gt rfl ?_
      refine S_mv rfl ?_
      refine S_gt rfl ?_
      refine S_bin rfl rfl rfl ?_
      refine S_pt rfl rfl ?_
      refine S_mv rfl ?_
      refine S_dec (fun g276a => ?_) (fun g276a => ?_)
      · skip
        refine S_gt rfl ?_
        first | refine S_fa0 T.f104_3 rfl ?_ | refine S_fa T.f104_3 rfl ?_
        refine S_gt rfl ?_
        refine S_ldK T.ag3 rfl (fun K' hK' => ?_)
        simp (disch := omega) only [b0, b1, g0, g1, g2, g3, oP_some, Nat.add_zero]
        refine hK' _ ?_; clear hK' K'
        refine S_gt rfl ?_
        refine S_mv rfl ?_
        refine S_gt rfl ?_
        refine S_bin rfl rfl rfl ?_
        refine S_pt rfl rfl ?_
        refine S_as rfl ?_
        refine S_nil (hK20 _ _ (V_keep [4] (by simp only [proj, lk, reduceIte, Nat.reduceEqDiff]; rfl) ?_)); clear hK20
        refine V_ret ?_
        refine hR _ _ (ret1 rfl rfl ?_)
        exact ⟨by rw [decide_eq_true hbk.2.1], hE2⟩
      · skip
        exact absurd rfl g276a
    · skip
      exact absurd rfl g276
set_option maxHeartbeats 400000 in
theorem clonetrail_spec (h : Heap) (D M Y : Nat) (mm : MC) (cl : Nat → Option (List Int)) (G F : Nat → Prop) (s : TS) (mv : MV h M Y mm cl G F s) :
    FC Tryz.prog 131 (#[.agg #[.pointer (some ⟨Y, 0, none⟩), .pointer (some ⟨M, 0, none⟩), .pointer (some ⟨D, 0, none⟩)]] : Array Value) h fun rv h' => ∃ V N, rv = .pointer (some ⟨V, 0, none⟩) ∧ MS h' V N s ∧ Ext (fun _ => False) h h' ∧ ∀ b, N b → h.size ≤ b := by
  refine FC_of [(0, .agg #[.pointer (some ⟨Y, 0, none⟩), .pointer (some ⟨M, 0, none⟩), .pointer (some ⟨D, 0, none⟩)])] Tryz.func131 rfl Tryz.ntmps131 (by simp) rfl (fun R hR => ?_)
  refine V_sr T.mix (by kernel_rfl) (fun K1 hK1 => ?_)
  refine S_boxA rfl ?_
  generalize hh : Array.push h _ = h1
  have hO : B h1 h.size #[.pointer (some ⟨Y, 0, none⟩), .pointer (some ⟨M, 0, none⟩), .pointer (some ⟨D, 0, none⟩)] 38 := by rw [← hh]; exact B.new _ _ _
  have hEh1 : Ext (fun _ => False) h h1 := by rw [← hh]; exact Ext.push _ _ _
  have hsh1 : h1.size = h.size + 1 := by rw [← hh]; simp
  clear hh
  try clear b0 b1 b2
  obtain ⟨b0, b1, b2⟩ := bq3 (hO)
  refine S_as rfl ?_
  refine S_nil (hK1 _ _ (V_keep [1] (by simp only [proj, lk, reduceIte, Nat.reduceEqDiff]; rfl) ?_)); clear hK1
  refine V_sr T.mix (by kernel_rfl) (fun K2 hK2 => ?_)
  first | refine S_fa0 T.f38_0 rfl ?_ | refine S_fa T.f38_0 rfl ?_
  refine S_ldK T.ag34 rfl (fun K' hK' => ?_)
  simp (disch := omega) only [b0, oP_some, Nat.add_zero]
  refine hK' _ ?_; clear hK' K'
  refine S_call T.hb139 rfl ?_
  refine FC.mono (mclone_spec h1 Y F s (mv.ext (hEh1) (fun f => f) (fun _ _ f => f) (fun _ _ f => f)).t) ?_
  rintro v' h2 ⟨V, N, rfl, hms, hE2, hN⟩
  refine S_as rfl ?_
  refine S_nil (hK2 _ _ (V_keep [2] (by simp only [proj, lk, reduceIte, Nat.reduceEqDiff]; rfl) ?_)); clear hK2
  refine V_ret ?_
  refine hR _ _ (ret1 rfl rfl ?_)
  exact ⟨V, N, rfl, hms, hEh1.trans hE2, fun b e => by have h9 := hN b e; omega⟩
set_option maxHeartbeats 1600000 in
theorem asserting_spec (h : Heap) (D M Y : Nat) (mm : MC) (cl : Nat → Option (List Int)) (G F : Nat → Prop) (s : TS) (mv : MV h M Y mm cl G F s) (c : List Int) (j0 : Nat) (g : Ans) (hg : AnK s cl c j0 g) (xa : Option Addr) (hIx : IL h xa g.lits.length g.lits) :
    FC Tryz.prog 114 (#[.agg #[.pointer (some ⟨Y, 0, none⟩), .pointer (some ⟨M, 0, none⟩), .pointer (some ⟨D, 0, none⟩)], .agg #[.int .i64 ((g.err : Int)), .slice xa g.lits.length g.lits.length, .int .i64 (g.asr), .int .i64 (g.back)]] : Array Value) h fun rv h' => rv = .bool true ∧ Ext (fun _ => False) h h' := by
  have hok := mv.t.ok
  have hl12 := hok.len
  have hdp := hok.dep
  have hgl := hg.nr.len
  have hbk := hg.back hok
  have ham := hg.a_mem hok
  have hbj := bj_back hbk.1 hbk.2.1
  have hbl : (bjS s g.back).L.length ≤ 12 := by rw [hbj.2, List.length_take]; omega
  have hll := lits_len (bjS s g.back).L
  have hbcon : Con (· ∈ lits (bjS s g.back).L) := fun x h1 h2 => by rw [hbj.2, lits_take] at h1 h2; exact con_lits hok x (List.mem_of_mem_take h1) (List.mem_of_mem_take h2)
  refine FC_of [(0, .agg #[.pointer (some ⟨Y, 0, none⟩), .pointer (some ⟨M, 0, none⟩), .pointer (some ⟨D, 0, none⟩)]), (1, .agg #[.int .i64 ((g.err : Int)), .slice xa g.lits.length g.lits.length, .int .i64 (g.asr), .int .i64 (g.back)])] Tryz.func114 rfl Tryz.ntmps114 (by simp) rfl (fun R hR => ?_)
  refine V_sr T.mix (by kernel_rfl) (fun K1 hK1 => ?_)
  refine S_boxA rfl ?_
  generalize hh : Array.push h _ = h1
  have hO1 : B h1 h.size #[.pointer (some ⟨Y, 0, none⟩), .pointer (some ⟨M, 0, none⟩), .pointer (some ⟨D, 0, none⟩)] 38 := by rw [← hh]; exact B.new _ _ _
  have hEh1 : Ext (fun _ => False) h h1 := by rw [← hh]; exact Ext.push _ _ _
  have hsh1 : h1.size = h.size + 1 := by rw [← hh]; simp
  clear hh
  refine S_boxA rfl ?_
  generalize hh : Array.push h1 _ = h2
  have hO2 : B h2 h1.size #[.int .i64 ((g.err : Int)), .slice xa g.lits.length g.lits.length, .int .i64 (g.asr), .int .i64 (g.back)] 104 := by rw [← hh]; exact B.new _ _ _
  have hEh2 : Ext (fun _ => False) h1 h2 := by rw [← hh]; exact Ext.push _ _ _
  have hsh2 : h2.size = h1.size + 1 := by rw [← hh]; simp
  clear hh
  have hE2 := hEh1.trans hEh2
  have hIx2 := hIx.ext hE2 (fun _ _ f => f)
  have mv2 := (mv.ext (hE2) (fun f => f) (fun _ _ f => f) (fun _ _ f => f))
  try clear b0 b1 b2
  obtain ⟨b0, b1, b2⟩ := bq3 (hO1.ext hEh2 (fun f => f))
  try clear g0 g1 g2 g3
  obtain ⟨g0, g1, g2, g3⟩ := bq4 (hO2)
  refine S_as rfl ?_
  refine S_nil (hK1 _ _ (V_keep [2, 3] (by simp only [proj, lk, reduceIte, Nat.reduceEqDiff]; rfl) ?_)); clear hK1
  refine V_sr T.mix (by kernel_rfl) (fun K2 hK2 => ?_)
  refine S_ldn T.ag38 rfl ((hO1.ext hEh2 (fun f => f)).all rfl) ?_
  refine S_call T.hb131 rfl ?_
  refine FC.mono (clonetrail_spec h2 D M Y mm cl G F s mv2) ?_
  rintro v' h3 ⟨V, N, rfl, hms, hE3, hN⟩
  have hs3 := hE3.1
  try clear g0 g1 g2 g3
  obtain ⟨g0, g1, g2, g3⟩ := bq4 (hO2.ext hE3 (fun f => f))
  refine S_as rfl ?_
  refine S_nil (hK2 _ _ (V_keep [3, 5] (by simp only [proj, lk, reduceIte, Nat.reduceEqDiff]; rfl) ?_)); clear hK2
  refine V_sr T.mix (by kernel_rfl) (fun K3 hK3 => ?_)
  refine S_mv rfl ?_
  first | refine S_fa0 T.f104_3 rfl ?_ | refine S_fa T.f104_3 rfl ?_
  refine S_ldK T.ag3 rfl (fun K' hK' => ?_)
  simp (disch := omega) only [b0, b1, b2, g0, g1, g2, g3, oP_some, Nat.add_zero]
  refine hK' _ ?_; clear hK' K'
  refine S_call T.hb69 rfl ?_
  refine FC.mono (mbackjump_spec h3 V N s hms g.back) ?_
  rintro v' h4 ⟨rfl, N4, hms4, hx4⟩
  have hE34 : Ext (fun b => h2.size ≤ b) h3 h4 := hx4.1.mono hN
  have hs4 := hx4.1.1
  refine S_nil (hK3 _ _ (V_keep [3, 5] (by simp only [proj, lk, reduceIte, Nat.reduceEqDiff]; rfl) ?_)); clear hK3
  refine V_sr T.mix (by kernel_rfl) (fun K4 hK4 => ?_)
  refine S_as rfl ?_
  refine S_nil (hK4 _ _ (V_keep [3, 5, 6] (by simp only [proj, lk, reduceIte, Nat.reduceEqDiff]; rfl) ?_)); clear hK4
  refine V_sr T.mix (by kernel_rfl) (fun K5 hK5 => ?_)
  refine S_mv rfl ?_
  refine S_call T.hb50 rfl ?_
  refine FC.mono (mlen_spec h4 V N4 (bjS s g.back) hms4) ?_
  rintro v' h' ⟨rfl, rfl⟩
  refine S_as rfl ?_
  refine S_nil (hK5 _ _ (V_keep [3, 5, 6, 7] (by simp only [proj, lk, reduceIte, Nat.reduceEqDiff]; rfl) ?_)); clear hK5
  refine V_seq (fun K6 hK6 => ?_)
  refine V_sr T.mix (by kernel_rfl) (fun K7 hK7 => ?_)
  refine S_as rfl ?_
  refine S_nil (hK7 _ _ (V_keep [3, 5, 6, 7, 8] (by simp only [proj, lk, reduceIte, Nat.reduceEqDiff]; rfl) ?_)); clear hK7
  refine V_block ?_
  refine V_loop (fun m l h' => ∃ (i : Nat) (hk : Heap) (oa : Option Addr) (oc : Nat), (i ≤ (bjS s g.back).L.length) ∧ (OwnR h4.size hk oa ((lits (bjS s g.back).L).take i).length oc (ints ((lits (bjS s g.back).L).take i)) 3 1) ∧ (Ext (fun _ => False) h4 hk) ∧ m = (bjS s g.back).L.length - i ∧ l = [(3, .pointer (some ⟨h1.size, 0, none⟩)), (5, .pointer (some ⟨V, 0, none⟩)), (6, .slice oa ((lits (bjS s g.back).L).take i).length oc), (7, .int .i64 ((bjS s g.back).L.length : Int)), (8, .int .i64 (i : Int))] ∧ hk = h') _ ⟨0, h4, none, 0, by omega, OwnR.nil _ _ _ _, Ext.refl _ _, rfl, rfl, rfl⟩ ?_
  rintro m l h' ⟨i, hk, oa, oc, hi, hoo, hEk, rfl, rfl, rfl⟩ K8 hK8
  have hsz := hEk.1
  have htl : ((lits (bjS s g.back).L).take i).length ≤ 12 := by rw [List.length_take]; omega
  try clear g0 g1 g2 g3
  obtain ⟨g0, g1, g2, g3⟩ := bq4 (((hO2.ext hE3 (fun f => f)).ext hE34 (fun e => by omega)).ext hEk (fun f => f))
  refine V_seq (fun K9 hK9 => ?_)
  refine V_sr T.mix (by kernel_rfl) (fun K10 hK10 => ?_)
  refine S_cut (K' := fun l h' => ∃ b : Bool, (b = true ↔ (i < (bjS s g.back).L.length)) ∧ l = [(3, .pointer (some ⟨h1.size, 0, none⟩)), (5, .pointer (some ⟨V, 0, none⟩)), (6, .slice oa ((lits (bjS s g.back).L).take i).length oc), (7, .int .i64 ((bjS s g.back).L.length : Int)), (8, .int .i64 (i : Int)), (25, .bool b)] ∧ hk = h') ?_ ?_
  · skip
    refine S_mv rfl ?_
    refine S_mv rfl ?_
    refine S_bin rfl rfl rfl ?_
    refine S_mv rfl ?_
    refine S_dec (fun g285 => ?_) (fun g285 => ?_)
    · skip
      refine S_gt rfl ?_
      refine S_mv rfl ?_
      refine S_gt rfl ?_
      refine S_bin rfl rfl rfl ?_
      refine S_pt rfl rfl ?_
      exact S_nilk [3, 5, 6, 7, 8, 25] (by simp only [proj, lk, reduceIte, Nat.reduceEqDiff]; rfl) ⟨_, (by first | (simp [*]; omega) | (simp; omega)), rfl, rfl⟩
    · skip
      refine S_gf rfl ?_
      refine S_gf rfl ?_
      refine S_pf rfl rfl ?_
      exact S_nilk [3, 5, 6, 7, 8, 25] (by simp only [proj, lk, reduceIte, Nat.reduceEqDiff]; rfl) ⟨_, (by first | (simp [*]; omega) | (simp; omega)), rfl, rfl⟩
  rintro l h' ⟨b, hb285, rfl, rfl⟩
  refine hK10 _ _ ?_; clear hK10
  refine V_condb rfl (fun c285 => ?_) (fun c285 => ?_)
  · replace c285 := hb285.1 c285
    refine V_skipk [3, 5, 6, 7, 8] (by simp only [proj, lk, reduceIte, Nat.reduceEqDiff]; rfl) ?_
    refine hK9 _ _ ?_; clear hK9
    refine V_seq (fun K12 hK12 => ?_)
    refine V_block ?_
    refine V_reg T.mix (by kernel_rfl) ?_
    refine S_mv rfl ?_
    refine S_mv rfl ?_
    refine S_mv rfl ?_
    refine S_call T.hb56 rfl ?_
    refine FC.mono (mat_spec hk V N4 (bjS s g.back) (hms4.ext hEk (fun _ _ f => f)) (i : Int)) ?_
    rintro v' h' ⟨rfl, rfl⟩
    refine S_bs T.ei39 rfl (by decide) (by decide) (T.bs39_1_0 _) ?_
    refine S_appx (lo := h4.size) T.ei39 T.ni39 T.us39 rfl rfl rfl (OwnR.ext hoo (Ext.push (fun _ => False) _ _) (fun _ _ f => f)) (by simp; omega) (cellsH_new _ _ _) rfl (by omega) (by decide) (by decide) rfl (fun a4 c4 h4x ho4 hE4x hb4x => ?_)
    have hE4 : Ext (fun z => blkA oa = some z) hk h4x := (Ext.push _ _ _).trans hE4x
    have hb4 := new_blk2 (h := hk) hb4x (by simp)
    have hI4 : OwnR h4.size h4x a4 (((lits (bjS s g.back).L).take i) ++ [atL (bjS s g.back).L (i : Int)]).length c4 (ints (((lits (bjS s g.back).L).take i) ++ [atL (bjS s g.back).L (i : Int)])) 3 1 := by rw [ints_snoc, List.length_append]; exact ho4
    refine S_as rfl ?_
    refine S_nilk [3, 5, 6, 7, 8] (by simp only [proj, lk, reduceIte, Nat.reduceEqDiff]; rfl) ?_
    refine hK12 _ _ ?_; clear hK12
    refine V_reg T.mix (by kernel_rfl) ?_
    refine S_mv rfl ?_
    first | refine S_add rfl rfl (by omega) (by omega) ?_ | refine S_bin rfl rfl rfl ?_
    refine S_as rfl ?_
    refine S_nilk [3, 5, 6, 7, 8] (by simp only [proj, lk, reduceIte, Nat.reduceEqDiff]; rfl) ?_
    exact hK8 _ _ ⟨_, by omega, i + 1, h4x, a4, c4, by omega, (by rw [lits_snoc (by omega)]; exact hI4), hEk.step hE4 (fun z hz e => by have h9 := OwnR.blk2 hoo e; omega), rfl, by rw [lits_snoc (by omega)]; simp, rfl⟩
  · replace c285 : ¬ _ := fun hp => Bool.false_ne_true (c285.symm.trans (hb285.2 hp))
    have hie : i = (lits (bjS s g.back).L).length := by omega
    rw [hie, List.take_length] at hoo ⊢
    refine V_exitk [3, 6] rfl (by simp only [proj, lk, reduceIte, Nat.reduceEqDiff]; rfl) ?_
    refine hK6 _ _ ?_; clear hK6
    refine V_sr T.mix (by kernel_rfl) (fun K13 hK13 => ?_)
    first | refine S_fa0 T.f104_1 rfl ?_ | refine S_fa T.f104_1 rfl ?_
    refine S_ldK T.ag39 rfl (fun K' hK' => ?_)
    simp (disch := omega) only [b0, b1, b2, g0, g1, g2, g3, oP_some, Nat.add_zero]
    refine hK' _ ?_; clear hK' K'
    refine S_mv rfl ?_
    refine S_call T.hb97 rfl ?_
    have hxk := (hIx2.ext hE3 (fun _ _ f => f)).ext hE34 (fun b e z => by have h9 := hIx2.lt e; omega)
    refine FC.mono (state_spec hk xa _ g.lits (hxk.ext hEk (fun _ _ f => f)) hg.nr oa oc _ (own0 hoo) (by omega) hbcon) ?_
    rintro v' h' ⟨sv, uv, rfl, hst, rfl⟩
    obtain ⟨rfl, rfl⟩ := hg.unit hok (by rw [hbj.2] at hst; exact hst)
    refine S_mv rfl ?_
    refine S_ex rfl rfl ?_
    refine S_ex rfl rfl ?_
    refine S_as rfl ?_
    refine S_as rfl ?_
    refine S_nil (hK13 _ _ (V_keep [3, 9, 10] (by simp only [proj, lk, reduceIte, Nat.reduceEqDiff]; rfl) ?_)); clear hK13
    refine V_sr T.mix (by kernel_rfl) (fun K14 hK14 => ?_)
    refine S_mv rfl ?_
    refine S_bin rfl rfl rfl ?_
    refine S_mv rfl ?_
    refine S_dec (fun g289 => ?_) (fun g289 => ?_)
    · skip
      refine S_gt rfl ?_
      refine S_mv rfl ?_
      refine S_gt rfl ?_
      first | refine S_fa0 T.f104_2 rfl ?_ | refine S_fa T.f104_2 rfl ?_
      refine S_gt rfl ?_
      refine S_ldK T.ag3 rfl (fun K' hK' => ?_)
      simp (disch := omega) only [b0, b1, b2, g0, g1, g2, g3, oP_some, Nat.add_zero]
      refine hK' _ ?_; clear hK' K'
      refine S_gt rfl ?_
      refine S_bin rfl rfl rfl ?_
      refine S_pt rfl rfl ?_
      refine S_as rfl ?_
      refine S_nil (hK14 _ _ (V_keep [4] (by simp only [proj, lk, reduceIte, Nat.reduceEqDiff]; rfl) ?_)); clear hK14
      refine V_ret ?_
      refine hR _ _ (ret1 rfl rfl ?_)
      exact ⟨by simp, (hE2.trans hE3).step hE34 (fun b hb e => by have h9 := hE2.1; omega) |>.trans hEk⟩
    · skip
      exact absurd rfl g289
set_option maxHeartbeats 1600000 in
theorem spare_spec (h : Heap) (D M Y : Nat) (mm : MC) (cl : Nat → Option (List Int)) (G F : Nat → Prop) (s : TS) (mv : MV h M Y mm cl G F s) (ca : Option Addr) (cap : Nat) (c : List Int) (ho : IL h ca cap c) (hl : c.length ≤ 100000) (hcn : Con (· ∈ c)) (qq : Int) (hq : -12 ≤ qq ∧ qq ≤ 12) :
    FC Tryz.prog 132 (#[.agg #[.pointer (some ⟨Y, 0, none⟩), .pointer (some ⟨M, 0, none⟩), .pointer (some ⟨D, 0, none⟩)], .slice ca c.length cap, .int .i64 qq] : Array Value) h fun rv h' => rv = .bool (spH s cl (fun x => decide (x ∈ c)) qq) ∧ Ext (fun _ => False) h h' := by
  refine FC_of [(0, .agg #[.pointer (some ⟨Y, 0, none⟩), .pointer (some ⟨M, 0, none⟩), .pointer (some ⟨D, 0, none⟩)]), (1, .slice ca c.length cap), (2, .int .i64 qq)] Tryz.func132 rfl Tryz.ntmps132 (by simp) rfl (fun R hR => ?_)
  refine V_sr T.mix (by kernel_rfl) (fun K1 hK1 => ?_)
  refine S_boxA rfl ?_
  generalize hh : Array.push h _ = h1
  have hO : B h1 h.size #[.pointer (some ⟨Y, 0, none⟩), .pointer (some ⟨M, 0, none⟩), .pointer (some ⟨D, 0, none⟩)] 38 := by rw [← hh]; exact B.new _ _ _
  have hEh1 : Ext (fun _ => False) h h1 := by rw [← hh]; exact Ext.push _ _ _
  have hsh1 : h1.size = h.size + 1 := by rw [← hh]; simp
  clear hh
  try clear b0 b1 b2
  obtain ⟨b0, b1, b2⟩ := bq3 (hO)
  have mv1 := (mv.ext (hEh1) (fun f => f) (fun _ _ f => f) (fun _ _ f => f))
  refine S_as rfl ?_
  refine S_nil (hK1 _ _ (V_keep [1, 2, 3] (by simp only [proj, lk, reduceIte, Nat.reduceEqDiff]; rfl) ?_)); clear hK1
  refine V_sr T.mix (by kernel_rfl) (fun K2 hK2 => ?_)
  refine S_mv rfl ?_
  refine S_call T.hb65 rfl ?_
  refine FC.mono (var_spec _ (qq) (by omega) (by omega)) ?_
  rintro v' h' ⟨rfl, rfl⟩
  refine S_as rfl ?_
  refine S_nil (hK2 _ _ (V_keep [1, 2, 3, 7] (by simp only [proj, lk, reduceIte, Nat.reduceEqDiff]; rfl) ?_)); clear hK2
  refine V_sr T.mix (by kernel_rfl) (fun K3 hK3 => ?_)
  first | refine S_fa0 T.f38_0 rfl ?_ | refine S_fa T.f38_0 rfl ?_
  refine S_ldK T.ag34 rfl (fun K' hK' => ?_)
  simp (disch := omega) only [b0, b1, oP_some, Nat.add_zero]
  refine hK' _ ?_; clear hK' K'
  refine S_mv rfl ?_
  refine S_call T.hb54 rfl ?_
  refine FC.mono (mreason_spec h1 Y F s mv1.t (qq.natAbs : Int)) ?_
  rintro v' h' ⟨rfl, rfl⟩
  refine S_as rfl ?_
  refine S_nil (hK3 _ _ (V_keep [1, 2, 3, 8] (by simp only [proj, lk, reduceIte, Nat.reduceEqDiff]; rfl) ?_)); clear hK3
  refine V_sr T.mix (by kernel_rfl) (fun K4 hK4 => ?_)
  first | refine S_fa0 T.f38_1 rfl ?_ | refine S_fa T.f38_1 rfl ?_
  refine S_ldK T.ag35 rfl (fun K' hK' => ?_)
  simp (disch := omega) only [b0, b1, oP_some, Nat.add_zero]
  refine hK' _ ?_; clear hK' K'
  refine S_mv rfl ?_
  refine S_call T.hb57 rfl ?_
  refine FC.mono (mwclause_spec h1 M Y mm cl G F s mv1 (reaV s.L (qq.natAbs : Int))) ?_
  rintro v' h2 ⟨ra, rfl, hIr, _, hrb, hE2⟩
  have hE02 := hEh1.trans hE2
  have mv2 := (mv.ext (hE02) (fun f => f) (fun _ _ f => f) (fun _ _ f => f))
  try clear b0 b1 b2
  obtain ⟨b0, b1, b2⟩ := bq3 (hO.ext hE2 (fun f => f))
  refine S_mv rfl ?_
  refine S_ex rfl rfl ?_
  refine S_ex rfl rfl ?_
  refine S_as rfl ?_
  refine S_as rfl ?_
  refine S_nil (hK4 _ _ (V_keep [1, 2, 3, 9, 10] (by simp only [proj, lk, reduceIte, Nat.reduceEqDiff]; rfl) ?_)); clear hK4
  refine V_seq (fun K5 hK5 => ?_)
  refine V_sr T.mix (by kernel_rfl) (fun K6 hK6 => ?_)
  refine S_mv rfl ?_
  refine S_bin rfl rfl rfl ?_
  refine S_nil (hK6 _ _ (V_keep [1, 2, 3, 9, 29] (by simp only [proj, lk, reduceIte, Nat.reduceEqDiff]; rfl) ?_)); clear hK6
  refine V_condp rfl (fun c297 => ?_) (fun c297 => ?_)
  · skip
    have hlv : liveC cl (reaV s.L (qq.natAbs : Int)) = none := by
      cases e : liveC cl (reaV s.L (qq.natAbs : Int)) with
      | none => rfl
      | some rc => exact absurd (by rw [(clF_some e).2]; rfl) c297
    refine V_sr T.mix (by kernel_rfl) (fun K7 hK7 => ?_)
    refine S_as rfl ?_
    refine S_nil (hK7 _ _ (V_keep [6] (by simp only [proj, lk, reduceIte, Nat.reduceEqDiff]; rfl) ?_)); clear hK7
    refine V_ret ?_
    refine hR _ _ (ret1 rfl rfl ?_)
    exact ⟨by unfold spH; rw [hlv], hE02⟩
  · skip
    obtain ⟨rc, hlv⟩ : ∃ rc, liveC cl (reaV s.L (qq.natAbs : Int)) = some rc := by
      cases e : liveC cl (reaV s.L (qq.natAbs : Int)) with
      | none => exact absurd (by rw [(clF_none e).2]; decide) c297
      | some rc => exact ⟨rc, rfl⟩
    have hnr := (mr_nl mv.r).live hlv
    have hln := hnr.len
    rw [(clF_some hlv).1] at hIr ⊢
    refine V_skipk [1, 2, 3, 9] (by simp only [proj, lk, reduceIte, Nat.reduceEqDiff]; rfl) ?_
    refine hK5 _ _ ?_; clear hK5
    refine V_seq (fun K8 hK8 => ?_)
    refine V_sr T.mix (by kernel_rfl) (fun K9 hK9 => ?_)
    refine S_as rfl ?_
    refine S_nil (hK9 _ _ (V_keep [1, 2, 3, 9, 11] (by simp only [proj, lk, reduceIte, Nat.reduceEqDiff]; rfl) ?_)); clear hK9
    refine V_block ?_
    refine V_loop (fun m l h' => ∃ (i : Nat), (i ≤ rc.length) ∧ ((rc.take i).all (fun x => decide (x = -qq) || decide (x ∈ c) || decide (levV s.L (x.natAbs : Int) = 0)) = true) ∧ m = rc.length - i ∧ l = [(1, .slice ca c.length cap), (2, .int .i64 qq), (3, .pointer (some ⟨h.size, 0, none⟩)), (9, .slice ra rc.length rc.length), (11, .int .i64 (i : Int))] ∧ h2 = h') _ ⟨0, by omega, by simp, rfl, rfl, rfl⟩ ?_
    rintro m l h' ⟨i, hi, hal, rfl, rfl, rfl⟩ K10 hK10
    refine V_seq (fun K11 hK11 => ?_)
    refine V_sr T.mix (by kernel_rfl) (fun K12 hK12 => ?_)
    refine S_mv rfl ?_
    refine S_mv rfl ?_
    refine S_lenl T.el39 rfl ?_
    refine S_bin rfl rfl rfl ?_
    refine S_nil (hK12 _ _ (V_keep [1, 2, 3, 9, 11, 33] (by simp only [proj, lk, reduceIte, Nat.reduceEqDiff]; rfl) ?_)); clear hK12
    refine V_condp rfl (fun c300 => ?_) (fun c300 => ?_)
    · skip
      obtain ⟨bb, hbe, _, _, _⟩ := hIr.get (by omega)
      subst hbe
      have hgr := gd_getD hnr.1 (show i < rc.length by omega)
      unfold gd at hgr
      refine V_skipk [1, 2, 3, 9, 11] (by simp only [proj, lk, reduceIte, Nat.reduceEqDiff]; rfl) ?_
      refine hK11 _ _ ?_; clear hK11
      refine V_seq (fun K13 hK13 => ?_)
      refine V_block ?_
      refine V_sr T.mix (by kernel_rfl) (fun K14 hK14 => ?_)
      refine S_mv rfl ?_
      refine S_mv rfl ?_
      first | refine S_ixn T.el39 rfl rfl (by omega) ?_ | refine S_ix1 T.el39 rfl rfl (by omega) (by omega) ?_ | refine S_ix T.el39 rfl rfl (by omega) (by omega) ?_
      refine S_ldK T.ag3 rfl (fun K' hK' => ?_)
      simp (disch := omega) only [hIr.at, oP_some, Nat.add_zero]
      refine hK' _ ?_; clear hK' K'
      refine S_as rfl ?_
      refine S_nil (hK14 _ _ (V_keep [1, 2, 3, 9, 11, 12] (by simp only [proj, lk, reduceIte, Nat.reduceEqDiff]; rfl) ?_)); clear hK14
      refine V_sr T.mix (by kernel_rfl) (fun K15 hK15 => ?_)
      refine S_mv rfl ?_
      refine S_mv rfl ?_
      first | refine S_neg rfl (by omega) (by omega) ?_ | refine S_un rfl rfl ?_
      refine S_bin rfl rfl rfl ?_
      refine S_nil (hK15 _ _ (V_keep [1, 2, 3, 9, 11, 12, 43] (by simp only [proj, lk, reduceIte, Nat.reduceEqDiff]; rfl) ?_)); clear hK15
      refine V_condp rfl (fun c302 => ?_) (fun c302 => ?_)
      · skip
        refine V_sr T.mix (by kernel_rfl) (fun K16 hK16 => ?_)
        refine S_mv rfl ?_
        refine S_mv rfl ?_
        refine S_call T.hb122 rfl ?_
        refine FC.mono (val_spec h2 (rc.getD i 0) (by omega) ca cap c (ho.ext hE02 (fun _ _ f => f)) (by omega)) ?_
        rintro v' h' ⟨v, rfl, hv, rfl⟩
        have hvi := sp_val hcn hv
        refine S_bin rfl rfl rfl ?_
        refine S_nil (hK16 _ _ (V_keep [1, 2, 3, 9, 11, 12, 47] (by simp only [proj, lk, reduceIte, Nat.reduceEqDiff]; rfl) ?_)); clear hK16
        refine V_condp rfl (fun c303 => ?_) (fun c303 => ?_)
        · skip
          refine V_sr T.mix (by kernel_rfl) (fun K17 hK17 => ?_)
          refine S_mv rfl ?_
          refine S_call T.hb65 rfl ?_
          refine FC.mono (var_spec _ ((rc.getD i 0)) (by omega) (by omega)) ?_
          rintro v' h' ⟨rfl, rfl⟩
          refine S_as rfl ?_
          refine S_nil (hK17 _ _ (V_keep [1, 2, 3, 9, 11, 13] (by simp only [proj, lk, reduceIte, Nat.reduceEqDiff]; rfl) ?_)); clear hK17
          refine V_sr T.mix (by kernel_rfl) (fun K18 hK18 => ?_)
          first | refine S_fa0 T.f38_0 rfl ?_ | refine S_fa T.f38_0 rfl ?_
          refine S_ldK T.ag34 rfl (fun K' hK' => ?_)
          simp (disch := omega) only [b0, b1, oP_some, Nat.add_zero]
          refine hK' _ ?_; clear hK' K'
          refine S_mv rfl ?_
          refine S_call T.hb53 rfl ?_
          refine FC.mono (mlevelof_spec h2 Y F s mv2.t ((rc.getD i 0).natAbs : Int)) ?_
          rintro v' h' ⟨rfl, rfl⟩
          refine S_as rfl ?_
          refine S_nil (hK18 _ _ (V_keep [1, 2, 3, 9, 11, 14] (by simp only [proj, lk, reduceIte, Nat.reduceEqDiff]; rfl) ?_)); clear hK18
          refine V_sr T.mix (by kernel_rfl) (fun K19 hK19 => ?_)
          refine S_mv rfl ?_
          refine S_bin rfl rfl rfl ?_
          refine S_nil (hK19 _ _ (V_keep [1, 2, 3, 9, 11, 55] (by simp only [proj, lk, reduceIte, Nat.reduceEqDiff]; rfl) ?_)); clear hK19
          refine V_condp rfl (fun c306 => ?_) (fun c306 => ?_)
          · skip
            refine V_sr T.mix (by kernel_rfl) (fun K20 hK20 => ?_)
            refine S_as rfl ?_
            refine S_nil (hK20 _ _ (V_keep [6] (by simp only [proj, lk, reduceIte, Nat.reduceEqDiff]; rfl) ?_)); clear hK20
            refine V_ret ?_
            refine hR _ _ (ret1 rfl rfl ?_)
            have hf2 : (fun x => decide (x = -qq) || decide (x ∈ c) || decide (levV s.L (x.natAbs : Int) = 0)) (rc.getD i 0) = false := by simp only []; rw [decide_eq_false c302, decide_eq_false (fun e => c303 (hvi.2 e)), decide_eq_false c306]; rfl
            exact ⟨by unfold spH; rw [hlv]; simp only []; rw [all_stop (show i < rc.length by omega) hf2], hE02⟩
          · skip
            refine V_skipk [1, 2, 3, 9, 11] (by simp only [proj, lk, reduceIte, Nat.reduceEqDiff]; rfl) ?_
            refine hK13 _ _ ?_; clear hK13
            refine V_reg T.mix (by kernel_rfl) ?_
            refine S_mv rfl ?_
            first | refine S_add rfl rfl (by omega) (by omega) ?_ | refine S_bin rfl rfl rfl ?_
            refine S_as rfl ?_
            refine S_nilk [1, 2, 3, 9, 11] (by simp only [proj, lk, reduceIte, Nat.reduceEqDiff]; rfl) ?_
            exact hK10 _ _ ⟨_, by omega, i + 1, by omega, by rw [all_snoc (by omega), hal]; simp only [Bool.true_and]; rw [decide_eq_true (show levV s.L ((rc.getD i 0).natAbs : Int) = 0 by omega), Bool.or_true], rfl, rfl, rfl⟩
        · skip
          refine V_skipk [1, 2, 3, 9, 11] (by simp only [proj, lk, reduceIte, Nat.reduceEqDiff]; rfl) ?_
          refine hK13 _ _ ?_; clear hK13
          refine V_reg T.mix (by kernel_rfl) ?_
          refine S_mv rfl ?_
          first | refine S_add rfl rfl (by omega) (by omega) ?_ | refine S_bin rfl rfl rfl ?_
          refine S_as rfl ?_
          refine S_nilk [1, 2, 3, 9, 11] (by simp only [proj, lk, reduceIte, Nat.reduceEqDiff]; rfl) ?_
          exact hK10 _ _ ⟨_, by omega, i + 1, by omega, by rw [all_snoc (by omega), hal]; simp only [Bool.true_and]; rw [decide_eq_true (hvi.1 (by omega)), Bool.or_true, Bool.true_or], rfl, rfl, rfl⟩
      · skip
        refine V_skipk [1, 2, 3, 9, 11] (by simp only [proj, lk, reduceIte, Nat.reduceEqDiff]; rfl) ?_
        refine hK13 _ _ ?_; clear hK13
        refine V_reg T.mix (by kernel_rfl) ?_
        refine S_mv rfl ?_
        first | refine S_add rfl rfl (by omega) (by omega) ?_ | refine S_bin rfl rfl rfl ?_
        refine S_as rfl ?_
        refine S_nilk [1, 2, 3, 9, 11] (by simp only [proj, lk, reduceIte, Nat.reduceEqDiff]; rfl) ?_
        exact hK10 _ _ ⟨_, by omega, i + 1, by omega, by rw [all_snoc (by omega), hal]; simp only [Bool.true_and]; rw [decide_eq_true (show (rc.getD i 0) = -qq by omega), Bool.true_or, Bool.true_or], rfl, rfl, rfl⟩
    · skip
      refine V_exitk [] rfl (by simp only [proj, lk, reduceIte, Nat.reduceEqDiff]; rfl) ?_
      refine hK8 _ _ ?_; clear hK8
      refine V_sr T.mix (by kernel_rfl) (fun K21 hK21 => ?_)
      refine S_as rfl ?_
      refine S_nil (hK21 _ _ (V_keep [6] (by simp only [proj, lk, reduceIte, Nat.reduceEqDiff]; rfl) ?_)); clear hK21
      refine V_ret ?_
      refine hR _ _ (ret1 rfl rfl ?_)
      rw [show i = rc.length by omega, List.take_length] at hal
      exact ⟨by unfold spH; rw [hlv]; simp only []; rw [hal], hE02⟩
set_option maxHeartbeats 1600000 in
theorem lean_spec (h : Heap) (D M Y : Nat) (mm : MC) (cl : Nat → Option (List Int)) (G F : Nat → Prop) (s : TS) (mv : MV h M Y mm cl G F s) (c : List Int) (j0 : Nat) (g : Ans) (hg : AnK s cl c j0 g) (xa : Option Addr) (hIx : IL h xa g.lits.length g.lits) :
    FC Tryz.prog 115 (#[.agg #[.pointer (some ⟨Y, 0, none⟩), .pointer (some ⟨M, 0, none⟩), .pointer (some ⟨D, 0, none⟩)], .agg #[.int .i64 ((g.err : Int)), .slice xa g.lits.length g.lits.length, .int .i64 (g.asr), .int .i64 (g.back)]] : Array Value) h fun rv h' => rv = .bool true ∧ Ext (fun _ => False) h h' := by
  have hok := mv.t.ok
  have hl12 := hok.len
  have hdp := hok.dep
  have hgl := hg.nr.len
  have hbk := hg.back hok
  have ham := hg.a_mem hok
  refine FC_of [(0, .agg #[.pointer (some ⟨Y, 0, none⟩), .pointer (some ⟨M, 0, none⟩), .pointer (some ⟨D, 0, none⟩)]), (1, .agg #[.int .i64 ((g.err : Int)), .slice xa g.lits.length g.lits.length, .int .i64 (g.asr), .int .i64 (g.back)])] Tryz.func115 rfl Tryz.ntmps115 (by simp) rfl (fun R hR => ?_)
  refine V_sr T.mix (by kernel_rfl) (fun K1 hK1 => ?_)
  refine S_boxA rfl ?_
  generalize hh : Array.push h _ = h1
  have hO1 : B h1 h.size #[.pointer (some ⟨Y, 0, none⟩), .pointer (some ⟨M, 0, none⟩), .pointer (some ⟨D, 0, none⟩)] 38 := by rw [← hh]; exact B.new _ _ _
  have hEh1 : Ext (fun _ => False) h h1 := by rw [← hh]; exact Ext.push _ _ _
  have hsh1 : h1.size = h.size + 1 := by rw [← hh]; simp
  clear hh
  refine S_boxA rfl ?_
  generalize hh : Array.push h1 _ = h2
  have hO2 : B h2 h1.size #[.int .i64 ((g.err : Int)), .slice xa g.lits.length g.lits.length, .int .i64 (g.asr), .int .i64 (g.back)] 104 := by rw [← hh]; exact B.new _ _ _
  have hEh2 : Ext (fun _ => False) h1 h2 := by rw [← hh]; exact Ext.push _ _ _
  have hsh2 : h2.size = h1.size + 1 := by rw [← hh]; simp
  clear hh
  have hE2 := hEh1.trans hEh2
  have hIx2 := hIx.ext hE2 (fun _ _ f => f)
  have mv2 := (mv.ext (hE2) (fun f => f) (fun _ _ f => f) (fun _ _ f => f))
  try clear b0 b1 b2
  obtain ⟨b0, b1, b2⟩ := bq3 (hO1.ext hEh2 (fun f => f))
  try clear g0 g1 g2 g3
  obtain ⟨g0, g1, g2, g3⟩ := bq4 (hO2)
  refine S_as rfl ?_
  refine S_nil (hK1 _ _ (V_keep [2, 3] (by simp only [proj, lk, reduceIte, Nat.reduceEqDiff]; rfl) ?_)); clear hK1
  refine V_seq (fun K2 hK2 => ?_)
  refine V_sr T.mix (by kernel_rfl) (fun K3 hK3 => ?_)
  refine S_as rfl ?_
  refine S_nil (hK3 _ _ (V_keep [2, 3, 5] (by simp only [proj, lk, reduceIte, Nat.reduceEqDiff]; rfl) ?_)); clear hK3
  refine V_block ?_
  refine V_loop (fun m l h' => ∃ (i : Nat) (hk : Heap), (i ≤ g.lits.length) ∧ (Ext (fun _ => False) h2 hk) ∧ m = g.lits.length - i ∧ l = [(2, .pointer (some ⟨h.size, 0, none⟩)), (3, .pointer (some ⟨h1.size, 0, none⟩)), (5, .int .i64 (i : Int))] ∧ hk = h') _ ⟨0, h2, by omega, Ext.refl _ _, rfl, rfl, rfl⟩ ?_
  rintro m l h' ⟨i, hk, hi, hEk, rfl, rfl, rfl⟩ K4 hK4
  have hIx0 := hIx2.ext hEk (fun _ _ f => f)
  have hOs := (hO1.ext hEh2 (fun f => f)).ext hEk (fun f => f)
  try clear b0 b1 b2
  obtain ⟨b0, b1, b2⟩ := bq3 (hOs)
  try clear g0 g1 g2 g3
  obtain ⟨g0, g1, g2, g3⟩ := bq4 (hO2.ext hEk (fun f => f))
  refine V_seq (fun K5 hK5 => ?_)
  refine V_sr T.mix (by kernel_rfl) (fun K6 hK6 => ?_)
  refine S_mv rfl ?_
  first | refine S_fa0 T.f104_1 rfl ?_ | refine S_fa T.f104_1 rfl ?_
  refine S_ldK T.ag39 rfl (fun K' hK' => ?_)
  simp (disch := omega) only [b0, b1, b2, g0, g1, g2, g3, oP_some, Nat.add_zero]
  refine hK' _ ?_; clear hK' K'
  refine S_lenl T.el39 rfl ?_
  refine S_bin rfl rfl rfl ?_
  refine S_nil (hK6 _ _ (V_keep [2, 3, 5, 11] (by simp only [proj, lk, reduceIte, Nat.reduceEqDiff]; rfl) ?_)); clear hK6
  refine V_condp rfl (fun c317 => ?_) (fun c317 => ?_)
  · skip
    obtain ⟨bb, hbe, _, _, _⟩ := IL.get hIx0 (by omega)
    have hIxk := hIx0
    rw [hbe] at hIxk
    have hmi : (g.lits.getD i 0) ∈ g.lits := mem_at (by omega)
    have hgd := hg.nr.1 _ hmi
    unfold gd at hgd
    refine V_skipk [2, 3, 5] (by simp only [proj, lk, reduceIte, Nat.reduceEqDiff]; rfl) ?_
    refine hK5 _ _ ?_; clear hK5
    refine V_seq (fun K7 hK7 => ?_)
    refine V_block ?_
    refine V_sr T.mix (by kernel_rfl) (fun K8 hK8 => ?_)
    first | refine S_fa0 T.f104_1 rfl ?_ | refine S_fa T.f104_1 rfl ?_
    refine S_ldK T.ag39 rfl (fun K' hK' => ?_)
    simp (disch := omega) only [g1, oP_some, Nat.add_zero]
    refine hK' _ ?_; clear hK' K'
    rw [hbe]
    refine S_mv rfl ?_
    first | refine S_ixn T.el39 rfl rfl (by omega) ?_ | refine S_ix1 T.el39 rfl rfl (by omega) (by omega) ?_ | refine S_ix T.el39 rfl rfl (by omega) (by omega) ?_
    refine S_ldK T.ag3 rfl (fun K' hK' => ?_)
    simp (disch := omega) only [hIxk.at, oP_some, Nat.add_zero]
    refine hK' _ ?_; clear hK' K'
    refine S_as rfl ?_
    refine S_nil (hK8 _ _ (V_keep [2, 3, 5, 6] (by simp only [proj, lk, reduceIte, Nat.reduceEqDiff]; rfl) ?_)); clear hK8
    refine V_sr T.mix (by kernel_rfl) (fun K9 hK9 => ?_)
    refine S_mv rfl ?_
    first | refine S_fa0 T.f104_2 rfl ?_ | refine S_fa T.f104_2 rfl ?_
    refine S_ldK T.ag3 rfl (fun K' hK' => ?_)
    simp (disch := omega) only [b0, b1, b2, g0, g1, g2, g3, oP_some, Nat.add_zero]
    refine hK' _ ?_; clear hK' K'
    refine S_bin rfl rfl rfl ?_
    refine S_nil (hK9 _ _ (V_keep [2, 3, 5, 6, 22] (by simp only [proj, lk, reduceIte, Nat.reduceEqDiff]; rfl) ?_)); clear hK9
    refine V_condp rfl (fun c319 => ?_) (fun c319 => ?_)
    · skip
      refine V_sr T.mix (by kernel_rfl) (fun K10 hK10 => ?_)
      refine S_ldn T.ag38 rfl (hOs.all rfl) ?_
      first | refine S_fa0 T.f104_1 rfl ?_ | refine S_fa T.f104_1 rfl ?_
      refine S_ldK T.ag39 rfl (fun K' hK' => ?_)
      simp (disch := omega) only [g1, oP_some, Nat.add_zero]
      refine hK' _ ?_; clear hK' K'
      refine S_mv rfl ?_
      refine S_call T.hb132 rfl ?_
      refine FC.mono (spare_spec hk D M Y mm cl G F s (mv.ext (hE2.trans hEk) (fun f => f) (fun _ _ f => f) (fun _ _ f => f)) xa _ g.lits hIx0 (by omega) (nrm_con hg.nr) (g.lits.getD i 0) (by omega)) ?_
      rintro v' h4 ⟨rfl, hE4⟩
      refine S_nil (hK10 _ _ (V_keep [2, 3, 5, 27] (by simp only [proj, lk, reduceIte, Nat.reduceEqDiff]; rfl) ?_)); clear hK10
      refine V_condb rfl (fun c320 => ?_) (fun c320 => ?_)
      · skip
        exfalso; rw [AnK.lean hok hg hmi c319] at c320; cases c320
      · skip
        refine V_skipk [2, 3, 5] (by simp only [proj, lk, reduceIte, Nat.reduceEqDiff]; rfl) ?_
        refine hK7 _ _ ?_; clear hK7
        refine V_reg T.mix (by kernel_rfl) ?_
        refine S_mv rfl ?_
        first | refine S_add rfl rfl (by omega) (by omega) ?_ | refine S_bin rfl rfl rfl ?_
        refine S_as rfl ?_
        refine S_nilk [2, 3, 5] (by simp only [proj, lk, reduceIte, Nat.reduceEqDiff]; rfl) ?_
        exact hK4 _ _ ⟨_, by omega, i + 1, h4, by omega, hEk.trans hE4, rfl, rfl, rfl⟩
    · skip
      refine V_skipk [2, 3, 5] (by simp only [proj, lk, reduceIte, Nat.reduceEqDiff]; rfl) ?_
      refine hK7 _ _ ?_; clear hK7
      refine V_reg T.mix (by kernel_rfl) ?_
      refine S_mv rfl ?_
      first | refine S_add rfl rfl (by omega) (by omega) ?_ | refine S_bin rfl rfl rfl ?_
      refine S_as rfl ?_
      refine S_nilk [2, 3, 5] (by simp only [proj, lk, reduceIte, Nat.reduceEqDiff]; rfl) ?_
      exact hK4 _ _ ⟨_, by omega, i + 1, hk, by omega, hEk, rfl, rfl, rfl⟩
  · skip
    refine V_exitk [] rfl (by simp only [proj, lk, reduceIte, Nat.reduceEqDiff]; rfl) ?_
    refine hK2 _ _ ?_; clear hK2
    refine V_sr T.mix (by kernel_rfl) (fun K11 hK11 => ?_)
    refine S_as rfl ?_
    refine S_nil (hK11 _ _ (V_keep [4] (by simp only [proj, lk, reduceIte, Nat.reduceEqDiff]; rfl) ?_)); clear hK11
    refine V_ret ?_
    refine hR _ _ (ret1 rfl rfl ?_)
    exact ⟨rfl, hE2.trans hEk⟩
set_option maxHeartbeats 1600000 in
theorem due_spec (h : Heap) (D M Y : Nat) (mm : MC) (cl : Nat → Option (List Int)) (G F : Nat → Prop) (s : TS) (mv : MV h M Y mm cl G F s) (sn : Sn cl s.L) (id : Int) :
    FC Tryz.prog 75 (#[.agg #[.pointer (some ⟨Y, 0, none⟩), .pointer (some ⟨M, 0, none⟩), .pointer (some ⟨D, 0, none⟩)], .int .i64 id] : Array Value) h fun rv h' => rv = .int .i64 ((ansF s cl id).err : Int) ∧ Ext (fun _ => False) h h' := by
  have hok := mv.t.ok
  have hl12 := hok.len
  have hdp := hok.dep
  have hnl0 := mr_nl mv.r
  refine FC_of [(0, .agg #[.pointer (some ⟨Y, 0, none⟩), .pointer (some ⟨M, 0, none⟩), .pointer (some ⟨D, 0, none⟩)]), (1, .int .i64 id)] Tryz.func75 rfl Tryz.ntmps75 (by simp) rfl (fun R hR => ?_)
  refine V_sr T.mix (by kernel_rfl) (fun K1 hK1 => ?_)
  refine S_boxA rfl ?_
  generalize hh : Array.push h _ = h1
  have hO : B h1 h.size #[.pointer (some ⟨Y, 0, none⟩), .pointer (some ⟨M, 0, none⟩), .pointer (some ⟨D, 0, none⟩)] 38 := by rw [← hh]; exact B.new _ _ _
  have hEh1 : Ext (fun _ => False) h h1 := by rw [← hh]; exact Ext.push _ _ _
  have hsh1 : h1.size = h.size + 1 := by rw [← hh]; simp
  clear hh
  try clear b0 b1 b2
  obtain ⟨b0, b1, b2⟩ := bq3 (hO)
  have mv1 := (mv.ext (hEh1) (fun f => f) (fun _ _ f => f) (fun _ _ f => f))
  refine S_as rfl ?_
  refine S_nil (hK1 _ _ (V_keep [1, 2] (by simp only [proj, lk, reduceIte, Nat.reduceEqDiff]; rfl) ?_)); clear hK1
  refine V_sr T.mix (by kernel_rfl) (fun K2 hK2 => ?_)
  first | refine S_fa0 T.f38_1 rfl ?_ | refine S_fa T.f38_1 rfl ?_
  refine S_ldK T.ag35 rfl (fun K' hK' => ?_)
  simp (disch := omega) only [b0, b1, oP_some, Nat.add_zero]
  refine hK' _ ?_; clear hK' K'
  refine S_mv rfl ?_
  refine S_call T.hb57 rfl ?_
  refine FC.mono (mwclause_spec h1 M Y mm cl G F s mv1 id) ?_
  rintro v' h2 ⟨ca, rfl, hIc, _, hcb, hE2⟩
  have hE02 := hEh1.trans hE2
  have mv2 := (mv.ext (hE02) (fun f => f) (fun _ _ f => f) (fun _ _ f => f))
  try clear b0 b1 b2
  obtain ⟨b0, b1, b2⟩ := bq3 (hO.ext hE2 (fun f => f))
  refine S_mv rfl ?_
  refine S_ex rfl rfl ?_
  refine S_ex rfl rfl ?_
  refine S_as rfl ?_
  refine S_as rfl ?_
  refine S_nil (hK2 _ _ (V_keep [2, 5, 6] (by simp only [proj, lk, reduceIte, Nat.reduceEqDiff]; rfl) ?_)); clear hK2
  refine V_seq (fun K3 hK3 => ?_)
  refine V_sr T.mix (by kernel_rfl) (fun K4 hK4 => ?_)
  refine S_mv rfl ?_
  refine S_bin rfl rfl rfl ?_
  refine S_nil (hK4 _ _ (V_keep [2, 5, 21] (by simp only [proj, lk, reduceIte, Nat.reduceEqDiff]; rfl) ?_)); clear hK4
  refine V_condp rfl (fun c354 => ?_) (fun c354 => ?_)
  · skip
    have hlv : liveC cl (id) = none := by
      cases e : liveC cl (id) with
      | none => rfl
      | some rc => exact absurd (by rw [(clF_some e).2]; rfl) c354
    refine V_sr T.mix (by kernel_rfl) (fun K5 hK5 => ?_)
    refine S_as rfl ?_
    refine S_nil (hK5 _ _ (V_keep [4] (by simp only [proj, lk, reduceIte, Nat.reduceEqDiff]; rfl) ?_)); clear hK5
    refine V_ret ?_
    refine hR _ _ (ret1 rfl rfl ?_)
    have hae : (ansF s cl id) = ⟨13, [], 0, 0⟩ := by unfold ansF; rw [hlv]
    exact ⟨by rw [hae]; rfl, hE02⟩
  · skip
    obtain ⟨c, hlv⟩ : ∃ rc, liveC cl (id) = some rc := by
      cases e : liveC cl (id) with
      | none => exact absurd (by rw [(clF_none e).2]; decide) c354
      | some rc => exact ⟨rc, rfl⟩
    have hnr := hnl0.live hlv
    have hln := hnr.len
    rw [(clF_some hlv).1] at hIc ⊢
    refine V_skipk [2, 5] (by simp only [proj, lk, reduceIte, Nat.reduceEqDiff]; rfl) ?_
    refine hK3 _ _ ?_; clear hK3
    refine V_sr T.mix (by kernel_rfl) (fun K6 hK6 => ?_)
    first | refine S_fa0 T.f38_0 rfl ?_ | refine S_fa T.f38_0 rfl ?_
    refine S_ldK T.ag34 rfl (fun K' hK' => ?_)
    simp (disch := omega) only [b0, b1, oP_some, Nat.add_zero]
    refine hK' _ ?_; clear hK' K'
    refine S_call T.hb49 rfl ?_
    refine FC.mono (mlevel_spec h2 Y F s mv2.t) ?_
    rintro v' h' ⟨rfl, rfl⟩
    refine S_as rfl ?_
    refine S_nil (hK6 _ _ (V_keep [2, 5, 7] (by simp only [proj, lk, reduceIte, Nat.reduceEqDiff]; rfl) ?_)); clear hK6
    refine V_sr T.mix (by kernel_rfl) (fun K7 hK7 => ?_)
    refine S_as rfl ?_
    refine S_nil (hK7 _ _ (V_keep [2, 5, 7, 8] (by simp only [proj, lk, reduceIte, Nat.reduceEqDiff]; rfl) ?_)); clear hK7
    refine V_seq (fun K8 hK8 => ?_)
    refine V_sr T.mix (by kernel_rfl) (fun K9 hK9 => ?_)
    refine S_as rfl ?_
    refine S_nil (hK9 _ _ (V_keep [2, 5, 7, 8, 9] (by simp only [proj, lk, reduceIte, Nat.reduceEqDiff]; rfl) ?_)); clear hK9
    refine V_block ?_
    refine V_loop (fun m l h' => ∃ (i : Nat), (i ≤ c.length) ∧ (((c.take i).all fun x => decide (valO s x = -1)) = true) ∧ m = c.length - i ∧ l = [(2, .pointer (some ⟨h.size, 0, none⟩)), (5, .slice ca c.length c.length), (7, .int .i64 (s.k : Int)), (8, .int .i64 (((c.take i).filter (fun x => decide (levV s.L (x.natAbs : Int) = (s.k : Int)))).length : Int)), (9, .int .i64 (i : Int))] ∧ h2 = h') _ ⟨0, by omega, by simp, rfl, rfl, rfl⟩ ?_
    rintro m l h' ⟨i, hi, hal, rfl, rfl, rfl⟩ K10 hK10
    have hfl := filt_le (c := c) (i := i) (fun x => decide (levV s.L (x.natAbs : Int) = (s.k : Int)))
    have hsn := fun h9 => filt_snoc (c := c) (i := i) h9 (fun x => decide (levV s.L (x.natAbs : Int) = (s.k : Int)))
    have hal2 : i < c.length → valO s (c.getD i 0) = -1 → ((c.take (i + 1)).all fun x => decide (valO s x = -1)) = true := fun h8 h9 => by rw [all_snoc h8, hal, decide_eq_true h9]; rfl
    refine V_seq (fun K11 hK11 => ?_)
    refine V_sr T.mix (by kernel_rfl) (fun K12 hK12 => ?_)
    refine S_mv rfl ?_
    refine S_mv rfl ?_
    refine S_lenl T.el39 rfl ?_
    refine S_bin rfl rfl rfl ?_
    refine S_nil (hK12 _ _ (V_keep [2, 5, 7, 8, 9, 28] (by simp only [proj, lk, reduceIte, Nat.reduceEqDiff]; rfl) ?_)); clear hK12
    refine V_condp rfl (fun c359 => ?_) (fun c359 => ?_)
    · skip
      obtain ⟨bb, hbe, _, _, _⟩ := hIc.get (by omega)
      subst hbe
      have hgr := gd_getD hnr.1 (show i < c.length by omega)
      unfold gd at hgr
      refine V_skipk [2, 5, 7, 8, 9] (by simp only [proj, lk, reduceIte, Nat.reduceEqDiff]; rfl) ?_
      refine hK11 _ _ ?_; clear hK11
      refine V_seq (fun K13 hK13 => ?_)
      refine V_block ?_
      refine V_sr T.mix (by kernel_rfl) (fun K14 hK14 => ?_)
      first | refine S_fa0 T.f38_0 rfl ?_ | refine S_fa T.f38_0 rfl ?_
      refine S_ldK T.ag34 rfl (fun K' hK' => ?_)
      simp (disch := omega) only [b0, hIc.at, oP_some, Nat.add_zero]
      refine hK' _ ?_; clear hK' K'
      refine S_mv rfl ?_
      refine S_mv rfl ?_
      first | refine S_ixn T.el39 rfl rfl (by omega) ?_ | refine S_ix1 T.el39 rfl rfl (by omega) (by omega) ?_ | refine S_ix T.el39 rfl rfl (by omega) (by omega) ?_
      refine S_ldK T.ag3 rfl (fun K' hK' => ?_)
      simp (disch := omega) only [b0, hIc.at, oP_some, Nat.add_zero]
      refine hK' _ ?_; clear hK' K'
      refine S_call T.hb52 rfl ?_
      refine FC.mono (mvalue_spec h2 Y F s mv2.t (c.getD i 0)) ?_
      rintro v' h' ⟨rfl, rfl⟩
      refine S_as rfl ?_
      refine S_nil (hK14 _ _ (V_keep [2, 5, 7, 8, 9, 10] (by simp only [proj, lk, reduceIte, Nat.reduceEqDiff]; rfl) ?_)); clear hK14
      refine V_seq (fun K15 hK15 => ?_)
      refine V_sr T.mix (by kernel_rfl) (fun K16 hK16 => ?_)
      refine S_mv rfl ?_
      refine S_bin rfl rfl rfl ?_
      refine S_nil (hK16 _ _ (V_keep [2, 5, 7, 8, 9, 39] (by simp only [proj, lk, reduceIte, Nat.reduceEqDiff]; rfl) ?_)); clear hK16
      refine V_condp rfl (fun c361 => ?_) (fun c361 => ?_)
      · skip
        refine V_sr T.mix (by kernel_rfl) (fun K17 hK17 => ?_)
        refine S_as rfl ?_
        refine S_nil (hK17 _ _ (V_keep [4] (by simp only [proj, lk, reduceIte, Nat.reduceEqDiff]; rfl) ?_)); clear hK17
        refine V_ret ?_
        refine hR _ _ (ret1 rfl rfl ?_)
        have hae : (ansF s cl id) = ⟨15, [], 0, 0⟩ := by unfold ansF; rw [hlv]; simp only []; rw [if_neg (by rw [all_stop (show i < c.length by omega) (decide_eq_false c361)]; simp)]
        exact ⟨by rw [hae]; rfl, hE02⟩
      · skip
        refine V_skipk [2, 5, 7, 8, 9] (by simp only [proj, lk, reduceIte, Nat.reduceEqDiff]; rfl) ?_
        refine hK15 _ _ ?_; clear hK15
        refine V_sr T.mix (by kernel_rfl) (fun K18 hK18 => ?_)
        refine S_mv rfl ?_
        refine S_mv rfl ?_
        first | refine S_ixn T.el39 rfl rfl (by omega) ?_ | refine S_ix1 T.el39 rfl rfl (by omega) (by omega) ?_ | refine S_ix T.el39 rfl rfl (by omega) (by omega) ?_
        refine S_ldK T.ag3 rfl (fun K' hK' => ?_)
        simp (disch := omega) only [hIc.at, oP_some, Nat.add_zero]
        refine hK' _ ?_; clear hK' K'
        refine S_call T.hb65 rfl ?_
        refine FC.mono (var_spec _ ((c.getD i 0)) (by omega) (by omega)) ?_
        rintro v' h' ⟨rfl, rfl⟩
        refine S_as rfl ?_
        refine S_nil (hK18 _ _ (V_keep [2, 5, 7, 8, 9, 11] (by simp only [proj, lk, reduceIte, Nat.reduceEqDiff]; rfl) ?_)); clear hK18
        refine V_sr T.mix (by kernel_rfl) (fun K19 hK19 => ?_)
        first | refine S_fa0 T.f38_0 rfl ?_ | refine S_fa T.f38_0 rfl ?_
        refine S_ldK T.ag34 rfl (fun K' hK' => ?_)
        simp (disch := omega) only [b0, b1, oP_some, Nat.add_zero]
        refine hK' _ ?_; clear hK' K'
        refine S_mv rfl ?_
        refine S_call T.hb53 rfl ?_
        refine FC.mono (mlevelof_spec h2 Y F s mv2.t ((c.getD i 0).natAbs : Int)) ?_
        rintro v' h' ⟨rfl, rfl⟩
        refine S_as rfl ?_
        refine S_nil (hK19 _ _ (V_keep [2, 5, 7, 8, 9, 12] (by simp only [proj, lk, reduceIte, Nat.reduceEqDiff]; rfl) ?_)); clear hK19
        refine V_sr T.mix (by kernel_rfl) (fun K20 hK20 => ?_)
        refine S_mv rfl ?_
        refine S_mv rfl ?_
        refine S_bin rfl rfl rfl ?_
        refine S_nil (hK20 _ _ (V_keep [2, 5, 7, 8, 9, 51] (by simp only [proj, lk, reduceIte, Nat.reduceEqDiff]; rfl) ?_)); clear hK20
        refine V_condp rfl (fun c366 => ?_) (fun c366 => ?_)
        · skip
          refine V_reg T.mix (by kernel_rfl) ?_
          refine S_mv rfl ?_
          first | refine S_add rfl rfl (by omega) (by omega) ?_ | refine S_bin rfl rfl rfl ?_
          refine S_as rfl ?_
          refine S_nilk [2, 5, 7, 8, 9] (by simp only [proj, lk, reduceIte, Nat.reduceEqDiff]; rfl) ?_
          refine hK13 _ _ ?_; clear hK13
          refine V_reg T.mix (by kernel_rfl) ?_
          refine S_mv rfl ?_
          first | refine S_add rfl rfl (by omega) (by omega) ?_ | refine S_bin rfl rfl rfl ?_
          refine S_as rfl ?_
          refine S_nilk [2, 5, 7, 8, 9] (by simp only [proj, lk, reduceIte, Nat.reduceEqDiff]; rfl) ?_
          exact hK10 _ _ ⟨_, by omega, i + 1, by omega, hal2 (by omega) (by omega), rfl, by rw [hsn (by omega), if_pos (decide_eq_true c366)]; simp, rfl⟩
        · skip
          refine V_skipk [2, 5, 7, 8, 9] (by simp only [proj, lk, reduceIte, Nat.reduceEqDiff]; rfl) ?_
          refine hK13 _ _ ?_; clear hK13
          refine V_reg T.mix (by kernel_rfl) ?_
          refine S_mv rfl ?_
          first | refine S_add rfl rfl (by omega) (by omega) ?_ | refine S_bin rfl rfl rfl ?_
          refine S_as rfl ?_
          refine S_nilk [2, 5, 7, 8, 9] (by simp only [proj, lk, reduceIte, Nat.reduceEqDiff]; rfl) ?_
          exact hK10 _ _ ⟨_, by omega, i + 1, by omega, hal2 (by omega) (by omega), rfl, by rw [hsn (by omega), if_neg (by rw [decide_eq_false c366]; simp)]; rfl, rfl⟩
    · skip
      have hie : i = c.length := by omega
      rw [hie, List.take_length] at hal ⊢
      have hcs0 := Cs.of hnr.nodup (all_fal hok hnr.1 hal)
      have hlv0 := hcs0.lv hok
      rw [hlv0]
      refine V_exitk [7, 8] rfl (by simp only [proj, lk, reduceIte, Nat.reduceEqDiff]; rfl) ?_
      refine hK8 _ _ ?_; clear hK8
      refine V_seq (fun K21 hK21 => ?_)
      refine V_sr T.mix (by kernel_rfl) (fun K22 hK22 => ?_)
      refine S_mv rfl ?_
      refine S_bin rfl rfl rfl ?_
      refine S_mv rfl ?_
      refine S_dec (fun g370 => ?_) (fun g370 => ?_)
      · skip
        refine S_gf rfl ?_
        refine S_gf rfl ?_
        refine S_pt rfl rfl ?_
        refine S_nil (hK22 _ _ (V_keep [59] (by simp only [proj, lk, reduceIte, Nat.reduceEqDiff]; rfl) ?_)); clear hK22
        refine V_condt rfl ?_
        refine V_sr T.mix (by kernel_rfl) (fun K23 hK23 => ?_)
        refine S_as rfl ?_
        refine S_nil (hK23 _ _ (V_keep [4] (by simp only [proj, lk, reduceIte, Nat.reduceEqDiff]; rfl) ?_)); clear hK23
        refine V_ret ?_
        refine hR _ _ (ret1 rfl rfl ?_)
        have hae : (ansF s cl id) = ⟨10, [], 0, 0⟩ := by unfold ansF; rw [hlv]; simp only []; rw [if_pos hal, if_pos (.inl (by omega))]
        exact ⟨by rw [hae]; rfl, hE02⟩
      · skip
        refine S_gt rfl ?_
        refine S_mv rfl ?_
        refine S_gt rfl ?_
        refine S_bin rfl rfl rfl ?_
        refine S_pf rfl rfl ?_
        refine S_nil (hK22 _ _ (V_keep [59] (by simp only [proj, lk, reduceIte, Nat.reduceEqDiff]; rfl) ?_)); clear hK22
        refine V_condp rfl (fun c370 => ?_) (fun c370 => ?_)
        · skip
          refine V_sr T.mix (by kernel_rfl) (fun K24 hK24 => ?_)
          refine S_as rfl ?_
          refine S_nil (hK24 _ _ (V_keep [4] (by simp only [proj, lk, reduceIte, Nat.reduceEqDiff]; rfl) ?_)); clear hK24
          refine V_ret ?_
          refine hR _ _ (ret1 rfl rfl ?_)
          have hae : (ansF s cl id) = ⟨10, [], 0, 0⟩ := by unfold ansF; rw [hlv]; simp only []; rw [if_pos hal, if_pos (.inr (by omega))]
          exact ⟨by rw [hae]; rfl, hE02⟩
        · skip
          refine V_skipk [] (by simp only [proj, lk, reduceIte, Nat.reduceEqDiff]; rfl) ?_
          refine hK21 _ _ ?_; clear hK21
          refine V_sr T.mix (by kernel_rfl) (fun K25 hK25 => ?_)
          refine S_as rfl ?_
          refine S_nil (hK25 _ _ (V_keep [4] (by simp only [proj, lk, reduceIte, Nat.reduceEqDiff]; rfl) ?_)); clear hK25
          refine V_ret ?_
          refine hR _ _ (ret1 rfl rfl ?_)
          have hae : (ansF s cl id) = shH s cl (hB s cl c) 12 := by unfold ansF; rw [hlv]; simp only []; rw [if_pos hal, if_neg (fun z => by rcases z with z | z <;> omega)]
          exact ⟨by rw [hae, (shH_len _ _ _ 12).2]; rfl, hE02⟩
end Go.Proofs.Qxb6500400aGreat
