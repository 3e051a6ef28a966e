import Derived.Test.Qxb6500401aGreatCl
set_option linter.unusedVariables false
set_option linter.unusedSimpArgs false
namespace Go.Proofs.Qxb6500401aGreat.ChkW
open Go.Eng Go.Cnf Go.Chk

theorem rowsOf_len (xs : List Int) : (rowsOf xs).length ≤ xs.length := by
  have : ∀ (l : List Int) (o : List Rw × Rw) (n : Nat), o.1.length + o.2.2.length ≤ n → (l.foldl stepR o).1.length + (l.foldl stepR o).2.2.length ≤ n + l.length := by
    intro l
    induction l with
    | nil => intro o n h; simpa using h
    | cons x l ih => intro o n h; rw [List.foldl_cons]; have := ih (stepR o x) (n + 1) (len_step n o x h); simp; omega
  have := this xs ([], (false, [])) 0 (by simp)
  unfold rowsOf rowsAt; omega
theorem nrm_rows {rows : List Rw} (h : NrmR rows) : ∀ c ∈ rows.map (·.2), Nrm c := fun c hc => by
  obtain ⟨r, hr, e⟩ := List.mem_map.1 hc; rw [← e]; exact h r hr
theorem map_snoc {rows : List Rw} {i : Nat} (hi : i < rows.length) : (rows.take (i + 1)).map (·.2) = (rows.take i).map (·.2) ++ [(rows.getD i (false, [])).2] := by
  rw [rtake_snoc hi, List.map_append]; rfl
theorem nodel_snoc {rows : List Rw} {i : Nat} (hi : i < rows.length) (h : ∀ r ∈ rows.take i, ¬ r.1 = true) (h2 : ¬ (rows.getD i (false, [])).1 = true) : ∀ r ∈ rows.take (i + 1), ¬ r.1 = true := fun r hr => by
  rw [rtake_snoc hi] at hr
  rcases List.mem_append.1 hr with q | q
  · exact h r q
  · rw [List.mem_singleton.1 q]; exact h2
theorem holds_snoc {c : List Int} {i m : Nat} (hi : i < c.length) (h : ∀ x ∈ c.take i, ¬ tru m x) (h2 : ¬ tru m (c.getD i 0)) : ∀ x ∈ c.take (i + 1), ¬ tru m x := fun x hx => by
  rcases (mem_take_snoc hi).1 hx with q | q
  · exact h x q
  · rw [q]; exact h2
theorem sat_snoc {cs : List (List Int)} {i m : Nat} (hi : i < cs.length) (h : sat (cs.take i) m) (h2 : ∃ x ∈ cs.getD i [], tru m x) : sat (cs.take (i + 1)) m := fun c hc => by
  rcases (mem_rtake hi).1 hc with q | q
  · exact h c q
  · rw [q]; exact h2
theorem tru_bit {m : Nat} {x : Int} : tru m x ↔ (m / 2 ^ (x.natAbs - 1) % 2 = 1 ↔ 0 < x) := by
  unfold tru
  have e : m.testBit (x.natAbs - 1) = decide (m / 2 ^ (x.natAbs - 1) % 2 = 1) := by rw [Nat.testBit_eq_decide_div_mod_eq]
  rw [e]
  split <;> simp [*]
theorem erase_snoc {S : Sto} {j n : Nat} (hj : j < S.length) (h : j ≠ n) : (S.take (j + 1)).eraseIdx n = (S.take j).eraseIdx n ++ [S.getD j []] := by
  have e : S.take (j + 1) = S.take j ++ [S.getD j []] := by rw [List.take_add_one]; simp [hj]
  rw [e]
  rcases Nat.lt_or_ge n j with q | q
  · rw [List.eraseIdx_append_of_lt_length (by rw [List.length_take]; omega)]
  · rw [List.eraseIdx_of_length_le (by simp; omega), List.eraseIdx_of_length_le (by simp; omega)]
theorem erase_same {S : Sto} {n : Nat} (hj : n < S.length) : (S.take (n + 1)).eraseIdx n = (S.take n).eraseIdx n := by
  have e : S.take (n + 1) = S.take n ++ [S.getD n []] := by rw [List.take_add_one]; simp [hj]
  rw [e, List.eraseIdx_append_of_length_le (by rw [List.length_take]; omega), List.eraseIdx_of_length_le (l := S.take n) (by rw [List.length_take]; omega)]
  rw [show n - (S.take n).length = 0 by rw [List.length_take]; omega]; simp
theorem erase_perm : ∀ {S : Sto} {n : Nat} {c : List Int}, n < S.length → S.getD n [] = c → S.Perm (S.eraseIdx n ++ [c])
  | x :: S, 0, c, _, h => by
    have e : x = c := by simpa using h
    rw [← e]; exact List.perm_append_comm (l₁ := [x]) (l₂ := S)
  | x :: S, n + 1, c, hn, h => by
    have := erase_perm (S := S) (n := n) (c := c) (by simpa using hn) (by simpa using h)
    exact List.Perm.cons x this
structure KM (h : Heap) (K M : Nat) : Prop where
  k : B h K #[.pointer (some ⟨M, 0, none⟩)] 111
  m : ∃ u w : Int, B h M #[.int .i64 u, .int .i64 w] 109
  ne : K ≠ M
theorem KM.ext {h h' : Heap} {K M : Nat} {S : Nat → Prop} (k : KM h K M) (he : Ext S h h') (h1 : ¬ S K) (h2 : ¬ S M) : KM h' K M := by
  obtain ⟨a, ⟨u, w, b⟩, c⟩ := k; exact ⟨a.ext he h1, ⟨u, w, b.ext he h2⟩, c⟩
set_option maxHeartbeats 400000 in
theorem true_spec (h : Heap) (x : Int) (hx : gd x) (m : Nat) (hm : m < 4096) :
    FC Tryz.prog 69 (#[.int .i64 x, .int .i64 (m : Int)] : Array Value) h fun rv h' => ∃ g : Bool, rv = .bool g ∧ (g = true ↔ tru m x) ∧ h = h' := by
  unfold gd at hx
  have hdv := Nat.div_le_self m (2 ^ (x.natAbs - 1))
  refine FC_of [(0, .int .i64 x), (1, .int .i64 (m : Int))] Tryz.func69 rfl Tryz.ntmps69 (by simp) rfl (fun R hR => ?_)
  refine V_sr T.mix (by kernel_rfl) (fun K1 hK1 => ?_)
  refine S_as rfl ?_
  refine S_nil (hK1 _ _ (V_keep [0, 1] (by simp only [proj, lk, reduceIte, Nat.reduceEqDiff]; rfl) ?_)); clear hK1
  refine V_sr T.mix (by kernel_rfl) (fun K2 hK2 => ?_)
  refine S_mv rfl ?_
  refine S_call T.hb52 rfl ?_
  refine FC.mono (var_spec h x (by omega) (by omega)) ?_
  rintro v' h' ⟨rfl, rfl⟩
  refine S_as rfl ?_
  refine S_nil (hK2 _ _ (V_keep [0, 1, 5] (by simp only [proj, lk, reduceIte, Nat.reduceEqDiff]; rfl) ?_)); clear hK2
  refine V_sr T.mix (by kernel_rfl) (fun K3 hK3 => ?_)
  refine S_mv rfl ?_
  refine S_mv rfl ?_
  first | refine S_sub rfl rfl (by omega) (by omega) ?_ | refine S_bin rfl rfl rfl ?_
  first | refine S_cvn T.us3 T.in57 rfl rfl (by first | omega | (simp only [IntKind.bits]; omega)) ?_ | refine S_cvu T.us3 T.in57 rfl (by omega) (by omega) ?_ | refine S_cv T.us3 T.in57 rfl ?_
  refine S_nshr m (x.natAbs - 1) _ rfl rfl rfl (by omega) rfl (show x.natAbs - 1 ≤ 64 by omega) ?_
  refine S_nand (m / 2 ^ (x.natAbs - 1)) 1 _ rfl rfl rfl rfl rfl (Nat.lt_of_le_of_lt hdv (Nat.lt_of_lt_of_le hm (by decide))) (by decide) ?_
  rw [Nat.and_one_is_mod]
  refine S_bin rfl rfl rfl ?_
  refine S_as rfl ?_
  refine S_nil (hK3 _ _ (V_keep [0, 6] (by simp only [proj, lk, reduceIte, Nat.reduceEqDiff]; rfl) ?_)); clear hK3
  refine V_sr T.mix (by kernel_rfl) (fun K4 hK4 => ?_)
  refine S_mv rfl ?_
  refine S_mv rfl ?_
  refine S_bin rfl rfl rfl ?_
  refine S_bin rfl rfl (by simp only [binV, T.kd4]; rfl) ?_
  refine S_as rfl ?_
  refine S_nil (hK4 _ _ (V_keep [4] (by simp only [proj, lk, reduceIte, Nat.reduceEqDiff]; rfl) ?_)); clear hK4
  refine V_ret ?_
  refine hR _ _ (ret1 rfl rfl ?_)
  exact ⟨_, rfl, by rw [tru_bit, decide_eq_true_iff, decide_eq_decide, show (((m / 2 ^ (x.natAbs - 1) % 2 : Nat) : Int) = 1) = (m / 2 ^ (x.natAbs - 1) % 2 = 1) from propext ⟨fun e => by omega, fun e => by omega⟩], rfl⟩
set_option maxHeartbeats 400000 in
theorem holds_spec (h : Heap) (ac : Option Addr) (cc : Nat) (c : List Int) (hc : IL h ac cc c) (hn : Nrm c) (ms : Nat) (hm : ms < 4096) :
    FC Tryz.prog 107 (#[.slice ac c.length cc, .int .i64 (ms : Int)] : Array Value) h fun rv h' => ∃ g : Bool, rv = .bool g ∧ (g = true ↔ ∃ x ∈ c, tru ms x) ∧ h = h' := by
  have hcl := hn.len
  refine FC_of [(0, .slice ac c.length cc), (1, .int .i64 (ms : Int))] Tryz.func107 rfl Tryz.ntmps107 (by simp) rfl (fun R hR => ?_)
  refine V_sr T.mix (by kernel_rfl) (fun K1 hK1 => ?_)
  refine S_as rfl ?_
  refine S_nil (hK1 _ _ (V_keep [0, 1] (by simp only [proj, lk, reduceIte, Nat.reduceEqDiff]; rfl) ?_)); clear hK1
  refine V_seq (fun K2 hK2 => ?_)
  refine V_sr T.mix (by kernel_rfl) (fun K3 hK3 => ?_)
  refine S_as rfl ?_
  refine S_nil (hK3 _ _ (V_keep [0, 1, 5] (by simp only [proj, lk, reduceIte, Nat.reduceEqDiff]; rfl) ?_)); clear hK3
  refine V_block ?_
  refine V_loop (fun m l h' => ∃ (i : Nat), (i ≤ c.length) ∧ (∀ x ∈ c.take i, ¬ tru ms x) ∧ m = c.length - i ∧ l = [(0, .slice ac c.length cc), (1, .int .i64 (ms : Int)), (5, .int .i64 (i : Int))] ∧ h = h') _ ⟨0, by omega, by simp, rfl, rfl, rfl⟩ ?_
  rintro m l h' ⟨i, hi, hno, rfl, rfl, rfl⟩ K4 hK4
  refine V_seq (fun K5 hK5 => ?_)
  refine V_sr T.mix (by kernel_rfl) (fun K6 hK6 => ?_)
  refine S_mv rfl ?_
  refine S_mv rfl ?_
  refine S_lenl T.el49 rfl ?_
  refine S_bin rfl rfl rfl ?_
  refine S_nil (hK6 _ _ (V_keep [0, 1, 5, 9] (by simp only [proj, lk, reduceIte, Nat.reduceEqDiff]; rfl) ?_)); clear hK6
  refine V_condp rfl (fun c37 => ?_) (fun c37 => ?_)
  · skip
    obtain ⟨bb, rfl, _, _, _⟩ := hc.get (by omega)
    refine V_skipk [0, 1, 5] (by simp only [proj, lk, reduceIte, Nat.reduceEqDiff]; rfl) ?_
    refine hK5 _ _ ?_; clear hK5
    refine V_seq (fun K7 hK7 => ?_)
    refine V_block ?_
    refine V_sr T.mix (by kernel_rfl) (fun K8 hK8 => ?_)
    refine S_mv rfl ?_
    refine S_mv rfl ?_
    first | refine S_ixn T.el49 rfl rfl (by omega) ?_ | refine S_ix1 T.el49 rfl rfl (by omega) (by omega) ?_ | refine S_ix T.el49 rfl rfl (by omega) (by omega) ?_
    refine S_ldK T.ag3 rfl (fun K' hK' => ?_)
    simp (disch := omega) only [hc.at, oP_some, Nat.add_zero]
    refine hK' _ ?_; clear hK' K'
    refine S_mv rfl ?_
    refine S_call T.hb69 rfl ?_
    refine FC.mono (true_spec h (c.getD i 0) (gd_getD hn.1 (by omega)) ms hm) ?_
    rintro v' h' ⟨g, rfl, hg, rfl⟩
    refine S_nil (hK8 _ _ (V_keep [0, 1, 5, 17] (by simp only [proj, lk, reduceIte, Nat.reduceEqDiff]; rfl) ?_)); clear hK8
    refine V_condb rfl (fun c38 => ?_) (fun c38 => ?_)
    · skip
      refine V_sr T.mix (by kernel_rfl) (fun K9 hK9 => ?_)
      refine S_as rfl ?_
      refine S_nil (hK9 _ _ (V_keep [4] (by simp only [proj, lk, reduceIte, Nat.reduceEqDiff]; rfl) ?_)); clear hK9
      refine V_ret ?_
      refine hR _ _ (ret1 rfl rfl ?_)
      exact ⟨true, rfl, ⟨fun _ => ⟨_, mem_at (show i < c.length by omega), hg.1 c38⟩, fun _ => rfl⟩, rfl⟩
    · skip
      refine V_skipk [0, 1, 5] (by simp only [proj, lk, reduceIte, Nat.reduceEqDiff]; rfl) ?_
      refine hK7 _ _ ?_; clear hK7
      refine V_reg T.mix (by kernel_rfl) ?_
      refine S_mv rfl ?_
      first | refine S_add rfl rfl (by omega) (by omega) ?_ | refine S_bin rfl rfl rfl ?_
      refine S_as rfl ?_
      refine S_nilk [0, 1, 5] (by simp only [proj, lk, reduceIte, Nat.reduceEqDiff]; rfl) ?_
      exact hK4 _ _ ⟨_, by omega, i + 1, by omega, holds_snoc (by omega) hno (fun e => by rw [hg.2 e] at c38; cases c38), rfl, rfl, rfl⟩
  · skip
    refine V_exitk [] rfl (by simp only [proj, lk, reduceIte, Nat.reduceEqDiff]; rfl) ?_
    refine hK2 _ _ ?_; clear hK2
    refine V_sr T.mix (by kernel_rfl) (fun K10 hK10 => ?_)
    refine S_as rfl ?_
    refine S_nil (hK10 _ _ (V_keep [4] (by simp only [proj, lk, reduceIte, Nat.reduceEqDiff]; rfl) ?_)); clear hK10
    refine V_ret ?_
    refine hR _ _ (ret1 rfl rfl ?_)
    have hie : i = c.length := by omega
    rw [hie, List.take_length] at hno
    exact ⟨false, rfl, ⟨fun e => (by cases e), fun ⟨x, h1, h2⟩ => absurd h2 (hno x h1)⟩, rfl⟩
set_option maxHeartbeats 400000 in
theorem allhold_spec (h : Heap) (la : Option Addr) (lc lo hi_ : Nat) (cs : List (List Int)) (hlv : LV lo hi_ h la lc cs) (hcs : ∀ c ∈ cs, Nrm c) (hll : cs.length ≤ 1099511627776) (ms : Nat) (hm : ms < 4096) :
    FC Tryz.prog 79 (#[.slice la cs.length lc, .int .i64 (ms : Int)] : Array Value) h fun rv h' => ∃ g : Bool, rv = .bool g ∧ (g = true ↔ sat cs ms) ∧ h = h' := by
  refine FC_of [(0, .slice la cs.length lc), (1, .int .i64 (ms : Int))] Tryz.func79 rfl Tryz.ntmps79 (by simp) rfl (fun R hR => ?_)
  refine V_sr T.mix (by kernel_rfl) (fun K1 hK1 => ?_)
  refine S_as rfl ?_
  refine S_nil (hK1 _ _ (V_keep [0, 1] (by simp only [proj, lk, reduceIte, Nat.reduceEqDiff]; rfl) ?_)); clear hK1
  refine V_seq (fun K2 hK2 => ?_)
  refine V_sr T.mix (by kernel_rfl) (fun K3 hK3 => ?_)
  refine S_as rfl ?_
  refine S_nil (hK3 _ _ (V_keep [0, 1, 5] (by simp only [proj, lk, reduceIte, Nat.reduceEqDiff]; rfl) ?_)); clear hK3
  refine V_block ?_
  refine V_loop (fun m l h' => ∃ (i : Nat), (i ≤ cs.length) ∧ (sat (cs.take i) ms) ∧ m = cs.length - i ∧ l = [(0, .slice la cs.length lc), (1, .int .i64 (ms : Int)), (5, .int .i64 (i : Int))] ∧ h = h') _ ⟨0, by omega, by intro c hc; simp at hc, rfl, rfl, rfl⟩ ?_
  rintro m l h' ⟨i, hi, hno, rfl, rfl, rfl⟩ K4 hK4
  refine V_seq (fun K5 hK5 => ?_)
  refine V_sr T.mix (by kernel_rfl) (fun K6 hK6 => ?_)
  refine S_mv rfl ?_
  refine S_mv rfl ?_
  refine S_lenl T.el38 rfl ?_
  refine S_bin rfl rfl rfl ?_
  refine S_nil (hK6 _ _ (V_keep [0, 1, 5, 9] (by simp only [proj, lk, reduceIte, Nat.reduceEqDiff]; rfl) ?_)); clear hK6
  refine V_condp rfl (fun c47 => ?_) (fun c47 => ?_)
  · skip
    obtain ⟨bb, rfl, hbb1, hbb2, hgt⟩ := (hlv).get (by omega)
    obtain ⟨ai, ci, hcell, hIc, hbi⟩ := hgt i (by omega)
    refine V_skipk [0, 1, 5] (by simp only [proj, lk, reduceIte, Nat.reduceEqDiff]; rfl) ?_
    refine hK5 _ _ ?_; clear hK5
    refine V_seq (fun K7 hK7 => ?_)
    refine V_block ?_
    refine V_sr T.mix (by kernel_rfl) (fun K8 hK8 => ?_)
    refine S_mv rfl ?_
    refine S_mv rfl ?_
    first | refine S_ixn T.el38 rfl rfl (by omega) ?_ | refine S_ix1 T.el38 rfl rfl (by omega) (by omega) ?_ | refine S_ix T.el38 rfl rfl (by omega) (by omega) ?_
    refine S_ldK T.ag49 rfl (fun K' hK' => ?_)
    simp (disch := omega) only [hcell, oP_some, Nat.add_zero]
    refine hK' _ ?_; clear hK' K'
    refine S_mv rfl ?_
    refine S_call T.hb107 rfl ?_
    refine FC.mono (holds_spec h ai ci (cs.getD i []) hIc (hcs _ (getD_mem (by omega))) ms hm) ?_
    rintro v' h' ⟨g, rfl, hg, rfl⟩
    refine S_notb rfl ?_
    refine S_nil (hK8 _ _ (V_keep [0, 1, 5, 18] (by simp only [proj, lk, reduceIte, Nat.reduceEqDiff]; rfl) ?_)); clear hK8
    refine V_condb rfl (fun c48 => ?_) (fun c48 => ?_)
    · skip
      refine V_sr T.mix (by kernel_rfl) (fun K9 hK9 => ?_)
      refine S_as rfl ?_
      refine S_nil (hK9 _ _ (V_keep [4] (by simp only [proj, lk, reduceIte, Nat.reduceEqDiff]; rfl) ?_)); clear hK9
      refine V_ret ?_
      refine hR _ _ (ret1 rfl rfl ?_)
      exact ⟨false, rfl, ⟨fun e => (by cases e), fun e => by rw [hg.2 (e _ (getD_mem (show i < cs.length by omega)))] at c48; cases c48⟩, rfl⟩
    · skip
      refine V_skipk [0, 1, 5] (by simp only [proj, lk, reduceIte, Nat.reduceEqDiff]; rfl) ?_
      refine hK7 _ _ ?_; clear hK7
      refine V_reg T.mix (by kernel_rfl) ?_
      refine S_mv rfl ?_
      first | refine S_add rfl rfl (by omega) (by omega) ?_ | refine S_bin rfl rfl rfl ?_
      refine S_as rfl ?_
      refine S_nilk [0, 1, 5] (by simp only [proj, lk, reduceIte, Nat.reduceEqDiff]; rfl) ?_
      exact hK4 _ _ ⟨_, by omega, i + 1, by omega, sat_snoc (by omega) hno (hg.1 (by simpa using c48)), rfl, rfl, rfl⟩
  · skip
    refine V_exitk [] rfl (by simp only [proj, lk, reduceIte, Nat.reduceEqDiff]; rfl) ?_
    refine hK2 _ _ ?_; clear hK2
    refine V_sr T.mix (by kernel_rfl) (fun K10 hK10 => ?_)
    refine S_as rfl ?_
    refine S_nil (hK10 _ _ (V_keep [4] (by simp only [proj, lk, reduceIte, Nat.reduceEqDiff]; rfl) ?_)); clear hK10
    refine V_ret ?_
    refine hR _ _ (ret1 rfl rfl ?_)
    have hie : i = cs.length := by omega
    rw [hie, List.take_length] at hno
    exact ⟨true, rfl, ⟨fun _ => hno, fun _ => rfl⟩, rfl⟩
set_option maxHeartbeats 400000 in
theorem table_spec (h : Heap) (la : Option Addr) (lc lo hi_ : Nat) (cs : List (List Int)) (hlv : LV lo hi_ h la lc cs) (hcs : ∀ c ∈ cs, Nrm c) (hll : cs.length ≤ 1099511627776) :
    FC Tryz.prog 66 (#[.slice la cs.length lc] : Array Value) h fun rv h' => ∃ r : Int, rv = .int .i64 r ∧ ((r = -1 ∧ ∀ m, m < 4096 → ¬ sat cs m) ∨ ∃ m : Nat, r = m ∧ m < 4096 ∧ sat cs m) ∧ h = h' := by
  refine FC_of [(0, .slice la cs.length lc)] Tryz.func66 rfl Tryz.ntmps66 (by simp) rfl (fun R hR => ?_)
  refine V_sr T.mix (by kernel_rfl) (fun K1 hK1 => ?_)
  refine S_as rfl ?_
  refine S_nil (hK1 _ _ (V_keep [0] (by simp only [proj, lk, reduceIte, Nat.reduceEqDiff]; rfl) ?_)); clear hK1
  refine V_seq (fun K2 hK2 => ?_)
  refine V_sr T.mix (by kernel_rfl) (fun K3 hK3 => ?_)
  refine S_as rfl ?_
  refine S_nil (hK3 _ _ (V_keep [0, 3] (by simp only [proj, lk, reduceIte, Nat.reduceEqDiff]; rfl) ?_)); clear hK3
  refine V_block ?_
  refine V_loop (fun m l h' => ∃ (k : Nat), (k ≤ 4096) ∧ (∀ m, m < k → ¬ sat cs m) ∧ m = 4096 - k ∧ l = [(0, .slice la cs.length lc), (3, .int .i64 (k : Int))] ∧ h = h') _ ⟨0, by omega, fun m hm => by omega, rfl, rfl, rfl⟩ ?_
  rintro m l h' ⟨k, hk, hno, rfl, rfl, rfl⟩ K4 hK4
  refine V_seq (fun K5 hK5 => ?_)
  refine V_sr T.mix (by kernel_rfl) (fun K6 hK6 => ?_)
  refine S_mv rfl ?_
  refine S_bin rfl rfl rfl ?_
  refine S_nil (hK6 _ _ (V_keep [0, 3, 5] (by simp only [proj, lk, reduceIte, Nat.reduceEqDiff]; rfl) ?_)); clear hK6
  refine V_condp rfl (fun c57 => ?_) (fun c57 => ?_)
  · skip
    refine V_skipk [0, 3] (by simp only [proj, lk, reduceIte, Nat.reduceEqDiff]; rfl) ?_
    refine hK5 _ _ ?_; clear hK5
    refine V_seq (fun K7 hK7 => ?_)
    refine V_block ?_
    refine V_sr T.mix (by kernel_rfl) (fun K8 hK8 => ?_)
    refine S_mv rfl ?_
    refine S_mv rfl ?_
    refine S_call T.hb79 rfl ?_
    refine FC.mono (allhold_spec h la lc lo hi_ cs hlv hcs hll k (by omega)) ?_
    rintro v' h' ⟨g, rfl, hg, rfl⟩
    refine S_nil (hK8 _ _ (V_keep [0, 3, 10] (by simp only [proj, lk, reduceIte, Nat.reduceEqDiff]; rfl) ?_)); clear hK8
    refine V_condb rfl (fun c58 => ?_) (fun c58 => ?_)
    · skip
      refine V_sr T.mix (by kernel_rfl) (fun K9 hK9 => ?_)
      refine S_mv rfl ?_
      refine S_as rfl ?_
      refine S_nil (hK9 _ _ (V_keep [2] (by simp only [proj, lk, reduceIte, Nat.reduceEqDiff]; rfl) ?_)); clear hK9
      refine V_ret ?_
      refine hR _ _ (ret1 rfl rfl ?_)
      exact ⟨_, rfl, .inr ⟨k, rfl, by omega, hg.1 c58⟩, rfl⟩
    · skip
      refine V_skipk [0, 3] (by simp only [proj, lk, reduceIte, Nat.reduceEqDiff]; rfl) ?_
      refine hK7 _ _ ?_; clear hK7
      refine V_reg T.mix (by kernel_rfl) ?_
      refine S_mv rfl ?_
      first | refine S_add rfl rfl (by omega) (by omega) ?_ | refine S_bin rfl rfl rfl ?_
      refine S_as rfl ?_
      refine S_nilk [0, 3] (by simp only [proj, lk, reduceIte, Nat.reduceEqDiff]; rfl) ?_
      exact hK4 _ _ ⟨_, by omega, k + 1, by omega, fun m hm => by by_cases e : m = k; (subst e; exact fun s => (by rw [hg.2 s] at c58; cases c58)); (exact hno m (by omega)), rfl, rfl, rfl⟩
  · skip
    refine V_exitk [] rfl (by simp only [proj, lk, reduceIte, Nat.reduceEqDiff]; rfl) ?_
    refine hK2 _ _ ?_; clear hK2
    refine V_sr T.mix (by kernel_rfl) (fun K10 hK10 => ?_)
    refine S_as rfl ?_
    refine S_nil (hK10 _ _ (V_keep [2] (by simp only [proj, lk, reduceIte, Nat.reduceEqDiff]; rfl) ?_)); clear hK10
    refine V_ret ?_
    refine hR _ _ (ret1 rfl rfl ?_)
    exact ⟨_, rfl, .inl ⟨rfl, fun m hm => hno m (by omega)⟩, rfl⟩
set_option maxHeartbeats 1600000 in
theorem problem_spec (h : Heap) (M : Nat) (u w : Int) (hM : B h M #[.int .i64 u, .int .i64 w] 109) (s : ByteArray) :
    FC Tryz.prog 65 (#[.pointer (some ⟨M, 0, none⟩), .string s] : Array Value) h fun rv h' => ∃ (ca : Option Addr) (cc : Nat) (L : List (List Int)), rv = .tuple #[.slice ca L.length cc, .int .i64 (prE s : Nat), .int .i64 (prP s : Nat)] ∧ LV h.size h'.size h' ca cc L ∧ (prE s = 0 → L = (rowsOf (parseF s).2.2).map (·.2)) ∧ Ext (fun z => z = M) h h' ∧ ∃ u w : Int, B h' M #[.int .i64 u, .int .i64 w] 109 := by
  have hMl := hM.lt
  have hps := parse_len s
  refine FC_of [(0, .pointer (some ⟨M, 0, none⟩)), (1, .string s)] Tryz.func65 rfl Tryz.ntmps65 (by simp) rfl (fun R hR => ?_)
  refine V_sr T.mix (by kernel_rfl) (fun K1 hK1 => ?_)
  refine S_as rfl ?_
  refine S_as rfl ?_
  refine S_as rfl ?_
  refine S_nil (hK1 _ _ (V_keep [0, 1] (by simp only [proj, lk, reduceIte, Nat.reduceEqDiff]; rfl) ?_)); clear hK1
  refine V_sr T.mix (by kernel_rfl) (fun K2 hK2 => ?_)
  refine S_mv rfl ?_
  refine S_mv rfl ?_
  refine S_call T.hb80 rfl ?_
  refine FC.mono (mparse_spec h M u w hM s) ?_
  rintro v' h1 ⟨cs1, rfl, ⟨fa, hfb, rfl, hfl, hfn⟩, hE1, u1, w1, hM1⟩
  refine S_allocA T.z115 ?_
  generalize hh : Array.push h1 _ = h2
  have hp2 : B h2 h1.size #[.int .i64 0, .int .i64 0, .slice none 0 0] 115 := by rw [← hh]; exact B.new _ _ _
  have hEh2 : Ext (fun _ => False) h1 h2 := by rw [← hh]; exact Ext.push _ _ _
  have hsh2 : h2.size = h1.size + 1 := by rw [← hh]; simp
  clear hh
  try clear a0 a1 a2 haok
  obtain ⟨a0, a1, a2, haok⟩ := aq (hp2)
  refine S_stl T.sz115 rfl rfl rfl rfl (fun j hj => by simp (disch := omega) only [haok]) ?_
  generalize hh : putsH _ _ _ _ = h3
  have hp3 : B h3 (h1.size) #[.int .i64 (parseF s).1, .int .i64 (parseF s).2.1, .slice fa (parseF s).2.2.length (parseF s).2.2.length] 115 := by rw [← hh]; exact B.puts_all (hp2) (cs' := #[.int .i64 (parseF s).1, .int .i64 (parseF s).2.1, .slice fa (parseF s).2.2.length (parseF s).2.2.length]) rfl
  have hEh3 : Ext (fun k => k = h1.size) h2 h3 := by rw [← hh]; exact Ext.puts (S := fun k => k = h1.size) rfl _ _ _
  clear hh
  try clear a0 a1 a2 haok
  obtain ⟨a0, a1, a2, haok⟩ := aq (hp3)
  have hl1 := hE1.1
  have hl2 := hEh2.1
  have hl3 := hEh3.1
  have hE3 : Ext (fun z => z = M) h h3 := (hE1.step hEh2 (fun _ _ f => f.elim)).step hEh3 (fun z hz e => by omega)
  have hM3 := (hM1.ext hEh2 (fun f => f)).ext hEh3 (fun e => by omega)
  have hfl3 := (hfl.ext hEh2 (fun _ _ f => f)).ext hEh3 (fun z e w => by have h9 := hfl.lt e; omega)
  refine S_nil (hK2 _ _ (V_keep [7] (by simp only [proj, lk, reduceIte, Nat.reduceEqDiff]; rfl) ?_)); clear hK2
  refine V_seq (fun K3 hK3 => ?_)
  refine V_sr T.mix (by kernel_rfl) (fun K4 hK4 => ?_)
  first | refine S_fa0 T.f115_0 rfl ?_ | refine S_fa T.f115_0 rfl ?_
  refine S_ldK T.ag54 rfl (fun K' hK' => ?_)
  simp (disch := omega) only [a0, a1, a2, oP_some, Nat.add_zero]
  refine hK' _ ?_; clear hK' K'
  refine S_bin rfl rfl rfl ?_
  refine S_nil (hK4 _ _ (V_keep [7, 16] (by simp only [proj, lk, reduceIte, Nat.reduceEqDiff]; rfl) ?_)); clear hK4
  refine V_condp rfl (fun c174 => ?_) (fun c174 => ?_)
  · skip
    refine V_sr T.mix (by kernel_rfl) (fun K5 hK5 => ?_)
    first | refine S_fa0 T.f115_0 rfl ?_ | refine S_fa T.f115_0 rfl ?_
    refine S_ldK T.ag54 rfl (fun K' hK' => ?_)
    simp (disch := omega) only [a0, a1, a2, oP_some, Nat.add_zero]
    refine hK' _ ?_; clear hK' K'
    first | refine S_fa0 T.f115_1 rfl ?_ | refine S_fa T.f115_1 rfl ?_
    refine S_ldK T.ag3 rfl (fun K' hK' => ?_)
    simp (disch := omega) only [a0, a1, a2, oP_some, Nat.add_zero]
    refine hK' _ ?_; clear hK' K'
    refine S_as rfl ?_
    refine S_as rfl ?_
    refine S_as rfl ?_
    refine S_nil (hK5 _ _ (V_keep [4, 5, 6] (by simp only [proj, lk, reduceIte, Nat.reduceEqDiff]; rfl) ?_)); clear hK5
    refine V_ret ?_
    refine hR _ _ (ret3 rfl rfl rfl rfl ?_)
    have e1 : prE s = (parseF s).1 := by unfold prE; rw [if_pos (by omega)]
    have e2 : prP s = (parseF s).2.1 := by unfold prP; rw [if_pos (by omega)]
    rw [e1, e2]
    exact ⟨none, 0, [], rfl, LV.nil _ _ _ (Nat.le_refl _), fun e => absurd e (by omega), hE3, _, _, hM3⟩
  · skip
    have hz1 : (parseF s).1 = 0 := by omega
    refine V_skipk [7] (by simp only [proj, lk, reduceIte, Nat.reduceEqDiff]; rfl) ?_
    refine hK3 _ _ ?_; clear hK3
    refine V_sr T.mix (by kernel_rfl) (fun K6 hK6 => ?_)
    first | refine S_fa0 T.f115_2 rfl ?_ | refine S_fa T.f115_2 rfl ?_
    refine S_ldK T.ag49 rfl (fun K' hK' => ?_)
    simp (disch := omega) only [a0, a1, a2, oP_some, Nat.add_zero]
    refine hK' _ ?_; clear hK' K'
    refine S_call T.hb77 rfl ?_
    refine FC.mono (rows_spec h3 fa _ (parseF s).2.2 hfl3 (by omega)) ?_
    rintro v' h4 ⟨oa, oc, rfl, hrv, hE4⟩
    have hl4 := hE4.1
    have hrl := rowsOf_len (parseF s).2.2
    refine S_as rfl ?_
    refine S_nil (hK6 _ _ (V_keep [8] (by simp only [proj, lk, reduceIte, Nat.reduceEqDiff]; rfl) ?_)); clear hK6
    refine V_sr T.mix (by kernel_rfl) (fun K7 hK7 => ?_)
    refine S_as rfl ?_
    refine S_nil (hK7 _ _ (V_keep [8, 9] (by simp only [proj, lk, reduceIte, Nat.reduceEqDiff]; rfl) ?_)); clear hK7
    refine V_seq (fun K8 hK8 => ?_)
    refine V_sr T.mix (by kernel_rfl) (fun K9 hK9 => ?_)
    refine S_as rfl ?_
    refine S_nil (hK9 _ _ (V_keep [8, 9, 10] (by simp only [proj, lk, reduceIte, Nat.reduceEqDiff]; rfl) ?_)); clear hK9
    refine V_block ?_
    refine V_loop (fun m l h' => ∃ (i : Nat) (hk : Heap) (ca : Option Addr) (cc : Nat) (L : List (List Int)), (i ≤ (rowsOf (parseF s).2.2).length) ∧ (L = ((rowsOf (parseF s).2.2).take i).map (·.2)) ∧ (∀ r ∈ (rowsOf (parseF s).2.2).take i, ¬ r.1 = true) ∧ (LV h.size hk.size hk ca cc L) ∧ (∀ z, blkA ca = some z → h4.size ≤ z) ∧ (Ext (fun _ => False) h4 hk) ∧ m = (rowsOf (parseF s).2.2).length - i ∧ l = [(8, .slice oa (rowsOf (parseF s).2.2).length oc), (9, .slice ca L.length cc), (10, .int .i64 (i : Int))] ∧ hk = h') _ ⟨0, h4, none, 0, [], by omega, by simp, by simp, LV.nil _ _ _ (Nat.le_refl _), by simp [blkA], Ext.refl _ _, rfl, rfl, rfl⟩ ?_
    rintro m l h' ⟨i, hk, ca, cc, L, hi, hL, hnd, hlv, hob, hEk, rfl, rfl, rfl⟩ K10 hK10
    have hkl := hEk.1
    have hLl : L.length = i := by rw [hL]; simp; omega
    refine V_seq (fun K11 hK11 => ?_)
    refine V_sr T.mix (by kernel_rfl) (fun K12 hK12 => ?_)
    refine S_mv rfl ?_
    refine S_mv rfl ?_
    refine S_lenl T.el132 rfl ?_
    refine S_bin rfl rfl rfl ?_
    refine S_nil (hK12 _ _ (V_keep [8, 9, 10, 27] (by simp only [proj, lk, reduceIte, Nat.reduceEqDiff]; rfl) ?_)); clear hK12
    refine V_condp rfl (fun c179 => ?_) (fun c179 => ?_)
    · skip
      obtain ⟨rb, rfl, hrb1, hrb2, hrg⟩ := (hrv.ext hEk (fun _ _ _ f => f)).get (by omega)
      obtain ⟨hrc, ai, ci, hlc, hIc, hbi⟩ := hrg i (by omega)
      obtain ⟨vs, hvs⟩ := hlv.own
      refine V_skipk [8, 9, 10] (by simp only [proj, lk, reduceIte, Nat.reduceEqDiff]; rfl) ?_
      refine hK11 _ _ ?_; clear hK11
      refine V_seq (fun K13 hK13 => ?_)
      refine V_block ?_
      refine V_seq (fun K14 hK14 => ?_)
      refine V_sr T.mix (by kernel_rfl) (fun K15 hK15 => ?_)
      refine S_mv rfl ?_
      refine S_mv rfl ?_
      first | refine S_ixmn T.el132 rfl rfl (by omega) ?_ | refine S_ixm T.el132 rfl rfl (by omega) (by omega) ?_ | refine S_ix T.el132 rfl rfl (by omega) (by omega) ?_
      first | refine S_fa0 T.f135_0 rfl ?_ | refine S_fa T.f135_0 rfl ?_
      refine S_ldK T.ag4 rfl (fun K' hK' => ?_)
      simp (disch := omega) only [hrc, oP_some, Nat.add_zero]
      refine hK' _ ?_; clear hK' K'
      refine S_nil (hK15 _ _ (V_keep [8, 9, 10, 34] (by simp only [proj, lk, reduceIte, Nat.reduceEqDiff]; rfl) ?_)); clear hK15
      refine V_condb rfl (fun c180 => ?_) (fun c180 => ?_)
      · skip
        refine V_sr T.mix (by kernel_rfl) (fun K16 hK16 => ?_)
        refine S_as rfl ?_
        refine S_as rfl ?_
        refine S_as rfl ?_
        refine S_nil (hK16 _ _ (V_keep [4, 5, 6] (by simp only [proj, lk, reduceIte, Nat.reduceEqDiff]; rfl) ?_)); clear hK16
        refine V_ret ?_
        refine hR _ _ (ret3 rfl rfl rfl rfl ?_)
        have e0 : fitF (rowsOf (parseF s).2.2) = 16 := by unfold fitF; rw [if_pos ⟨_, rmem (show i < (rowsOf (parseF s).2.2).length by omega), c180⟩]
        have e1 : prE s = 16 := by unfold prE; rw [if_neg (by omega), e0]
        have e2 : prP s = 0 := by unfold prP; rw [if_neg (by omega)]
        rw [e1, e2]
        exact ⟨none, 0, [], rfl, LV.nil _ _ _ (Nat.le_refl _), fun e => (by omega), (hE3.step hE4 (fun _ _ f => f.elim)).step hEk (fun _ _ f => f.elim), _, _, (hM3.ext hE4 (fun f => f)).ext hEk (fun f => f)⟩
      · skip
        refine V_skipk [8, 9, 10] (by simp only [proj, lk, reduceIte, Nat.reduceEqDiff]; rfl) ?_
        refine hK14 _ _ ?_; clear hK14
        refine V_reg T.mix (by kernel_rfl) ?_
        refine S_mv rfl ?_
        refine S_mv rfl ?_
        refine S_mv rfl ?_
        first | refine S_ixmn T.el132 rfl rfl (by omega) ?_ | refine S_ixm T.el132 rfl rfl (by omega) (by omega) ?_ | refine S_ix T.el132 rfl rfl (by omega) (by omega) ?_
        first | refine S_fa0 T.f135_1 rfl ?_ | refine S_fa T.f135_1 rfl ?_
        refine S_ldK T.ag49 rfl (fun K' hK' => ?_)
        simp (disch := omega) only [hlc, oP_some, Nat.add_zero]
        refine hK' _ ?_; clear hK' K'
        refine S_bs T.ei38 rfl (by decide) (by decide) (T.bs38_1_0 _ _ _) ?_
        refine S_appx (lo := h.size) T.ei38 T.ni38 T.us38 rfl rfl rfl (OwnR.ext hvs (Ext.push (fun _ => False) _ _) (fun _ _ f => f)) (by simp; omega) (cellsH_new _ _ _) rfl (by omega) (by decide) (by decide) rfl (fun a4 c4 hq hoq hE4x hb4x => ?_)
        have hEq : Ext (fun z => blkA ca = some z) hk hq := (Ext.push _ _ _).trans hE4x
        have hbq := new_blk (h := hk) hb4x (by simp)
        refine S_as rfl ?_
        refine S_nilk [8, 9, 10] (by simp only [proj, lk, reduceIte, Nat.reduceEqDiff]; rfl) ?_
        refine hK13 _ _ ?_; clear hK13
        refine V_reg T.mix (by kernel_rfl) ?_
        refine S_mv rfl ?_
        first | refine S_add rfl rfl (by omega) (by omega) ?_ | refine S_bin rfl rfl rfl ?_
        refine S_as rfl ?_
        refine S_nilk [8, 9, 10] (by simp only [proj, lk, reduceIte, Nat.reduceEqDiff]; rfl) ?_
        exact hK10 _ _ ⟨_, by omega, i + 1, hq, a4, c4, L ++ [((rowsOf (parseF s).2.2).getD i (false, [])).2], by omega, (by rw [map_snoc (by omega), ← hL]), nodel_snoc (by omega) hnd (by simpa using c180), hlv.snoc hvs hoq hEq hbq hIc (fun z e => ⟨by have h9 := hbi z e; omega, fun x => by have h9 := hbi z e; have h8 := hob z x; omega⟩), (fun z e => by rcases hbq z e with q | q; (exact hob z q); (omega)), hEk.step hEq (fun z hz e => by have h8 := hob z e; omega), rfl, by simp, rfl⟩
    · skip
      refine V_exitk [9] rfl (by simp only [proj, lk, reduceIte, Nat.reduceEqDiff]; rfl) ?_
      refine hK8 _ _ ?_; clear hK8
      refine V_seq (fun K17 hK17 => ?_)
      refine V_sr T.mix (by kernel_rfl) (fun K18 hK18 => ?_)
      refine S_mv rfl ?_
      refine S_lenl T.el38 rfl ?_
      refine S_bin rfl rfl rfl ?_
      refine S_nil (hK18 _ _ (V_keep [9, 45] (by simp only [proj, lk, reduceIte, Nat.reduceEqDiff]; rfl) ?_)); clear hK18
      refine V_condp rfl (fun c185 => ?_) (fun c185 => ?_)
      · skip
        refine V_sr T.mix (by kernel_rfl) (fun K19 hK19 => ?_)
        refine S_as rfl ?_
        refine S_as rfl ?_
        refine S_as rfl ?_
        refine S_nil (hK19 _ _ (V_keep [4, 5, 6] (by simp only [proj, lk, reduceIte, Nat.reduceEqDiff]; rfl) ?_)); clear hK19
        refine V_ret ?_
        refine hR _ _ (ret3 rfl rfl rfl rfl ?_)
        have hie : i = (rowsOf (parseF s).2.2).length := by omega
        rw [hie, List.take_length] at hnd
        have e0 : fitF (rowsOf (parseF s).2.2) = 17 := by unfold fitF; rw [if_neg (fun ⟨r, h1, h2⟩ => hnd r h1 h2), if_pos (by omega)]
        have e1 : prE s = 17 := by unfold prE; rw [if_neg (by omega), e0]
        have e2 : prP s = 0 := by unfold prP; rw [if_neg (by omega)]
        rw [e1, e2]
        exact ⟨none, 0, [], rfl, LV.nil _ _ _ (Nat.le_refl _), fun e => (by omega), (hE3.step hE4 (fun _ _ f => f.elim)).step hEk (fun _ _ f => f.elim), _, _, (hM3.ext hE4 (fun f => f)).ext hEk (fun f => f)⟩
      · skip
        refine V_skipk [9] (by simp only [proj, lk, reduceIte, Nat.reduceEqDiff]; rfl) ?_
        refine hK17 _ _ ?_; clear hK17
        refine V_sr T.mix (by kernel_rfl) (fun K20 hK20 => ?_)
        refine S_mv rfl ?_
        refine S_as rfl ?_
        refine S_as rfl ?_
        refine S_as rfl ?_
        refine S_nil (hK20 _ _ (V_keep [4, 5, 6] (by simp only [proj, lk, reduceIte, Nat.reduceEqDiff]; rfl) ?_)); clear hK20
        refine V_ret ?_
        refine hR _ _ (ret3 rfl rfl rfl rfl ?_)
        have hie : i = (rowsOf (parseF s).2.2).length := by omega
        rw [hie, List.take_length] at hnd hL
        have e0 : fitF (rowsOf (parseF s).2.2) = 0 := by unfold fitF; rw [if_neg (fun ⟨r, h1, h2⟩ => hnd r h1 h2), if_neg (by omega)]
        have e1 : prE s = 0 := by unfold prE; rw [if_neg (by omega), e0]
        have e2 : prP s = 0 := by unfold prP; rw [if_neg (by omega)]
        rw [e1, e2]
        exact ⟨ca, cc, L, rfl, hlv, fun _ => hL, (hE3.step hE4 (fun _ _ f => f.elim)).step hEk (fun _ _ f => f.elim), _, _, (hM3.ext hE4 (fun f => f)).ext hEk (fun f => f)⟩
set_option maxHeartbeats 400000 in
theorem mcnew_spec (h : Heap) (M : Nat) :
    FC Tryz.prog 25 (#[.pointer (some ⟨M, 0, none⟩)] : Array Value) h fun v h' => v = .pointer (some ⟨h.size, 0, none⟩) ∧ B h' h.size #[.pointer (some ⟨M, 0, none⟩)] 111 ∧ Ext (fun _ => False) h h' := by
  refine FC_of [(0, .pointer (some ⟨M, 0, none⟩))] Tryz.func25 rfl Tryz.ntmps25 (by simp) rfl (fun R hR => ?_)
  refine V_sr T.mix (by kernel_rfl) (fun K1 hK1 => ?_)
  refine S_as rfl ?_
  refine S_nil (hK1 _ _ (V_keep [0] (by simp only [proj, lk, reduceIte, Nat.reduceEqDiff]; rfl) ?_)); clear hK1
  refine V_sr T.mix (by kernel_rfl) (fun K2 hK2 => ?_)
  refine S_mv rfl ?_
  refine S_bld rfl (T.bld111_0 _) ?_
  refine S_boxA rfl ?_
  refine S_as rfl ?_
  refine S_nil (hK2 _ _ (V_keep [2] (by simp only [proj, lk, reduceIte, Nat.reduceEqDiff]; rfl) ?_)); clear hK2
  refine V_ret ?_
  refine hR _ _ (ret1 rfl rfl ?_)
  exact ⟨rfl, B.new _ _ _, Ext.push _ _ _⟩
end Go.Proofs.Qxb6500401aGreat.ChkW
