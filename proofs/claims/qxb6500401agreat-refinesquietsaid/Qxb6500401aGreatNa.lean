import Derived.Test.Qxb6500401aGreatMf
import Derived.Test.Qxb6500401aGreatCt
set_option linter.unusedVariables false
set_option linter.unusedSimpArgs false
namespace Go.Proofs.Qxb6500401aGreat
open Go.Eng Go.Trl Go.Chk Go.Wat Go.Cnf

theorem bq4 {h : Heap} {b P X C K : Nat} {t : TypeId} (hB : B h b #[.pointer (some ⟨P, 0, none⟩), .pointer (some ⟨X, 0, none⟩), .pointer (some ⟨C, 0, none⟩), .pointer (some ⟨K, 0, none⟩)] t) : cellH h ⟨b, 0, none⟩ = some (.pointer (some ⟨P, 0, none⟩)) ∧ cellH h ⟨b, 1, none⟩ = some (.pointer (some ⟨X, 0, none⟩)) ∧ cellH h ⟨b, 2, none⟩ = some (.pointer (some ⟨C, 0, none⟩)) ∧ cellH h ⟨b, 3, none⟩ = some (.pointer (some ⟨K, 0, none⟩)) ∧ cellsH h ⟨b, 0, none⟩ 0 4 = some #[.pointer (some ⟨P, 0, none⟩), .pointer (some ⟨X, 0, none⟩), .pointer (some ⟨C, 0, none⟩), .pointer (some ⟨K, 0, none⟩)].toList :=
  ⟨hB.cell 0, hB.cell 1, hB.cell 2, hB.cell 3, B.all hB (by rfl)⟩
theorem aq7 {h : Heap} {b : Nat} {e q : Int} {sb : Bool} {ma : Option Addr} {mn mc : Nat} {pf : ByteArray} {cf rs : Int} {t : TypeId} (hB : B h b #[.int .i64 e, .int .i64 q, .bool sb, .slice ma mn mc, .string pf, .int .i64 cf, .int .i64 rs] t) : cellH h ⟨b, 0, none⟩ = some (.int .i64 e) ∧ cellH h ⟨b, 1, none⟩ = some (.int .i64 q) ∧ cellH h ⟨b, 2, none⟩ = some (.bool sb) ∧ cellH h ⟨b, 3, none⟩ = some (.slice ma mn mc) ∧ cellH h ⟨b, 4, none⟩ = some (.string pf) ∧ cellH h ⟨b, 5, none⟩ = some (.int .i64 cf) ∧ cellH h ⟨b, 6, none⟩ = some (.int .i64 rs) :=
  ⟨hB.cell 0, hB.cell 1, hB.cell 2, hB.cell 3, hB.cell 4, hB.cell 5, hB.cell 6⟩
def shL (s : TS) : Nat → List Int
  | 0 => []
  | i + 1 => shL s i ++ [atL s.L (i : Int), reaV s.L ((atL s.L (i : Int)).natAbs : Int), levV s.L ((atL s.L (i : Int)).natAbs : Int)]
def shC (cl : Nat → Option (List Int)) : Nat → List Int
  | 0 => []
  | i + 1 => shC cl i ++ [(clE cl (i : Int) : Int)] ++ clF cl (i : Int) ++ [0]
def shotF (s : TS) (vis : Nat) (cl : Nat → Option (List Int)) : List Int := [(s.k : Int), (s.L.length : Int), (s.L.length : Int) - (s.c : Int), (vis : Int)] ++ shL s s.L.length ++ shC cl 52
theorem shL_len (s : TS) : ∀ i, (shL s i).length = 3 * i
  | 0 => rfl
  | i + 1 => by unfold shL; rw [List.length_append, shL_len s i]; simp; omega
theorem clF_len {cl : Nat → Option (List Int)} (h : ∀ n, n < 52 → ∀ c, cl n = some c → Nrm c) (i : Nat) (hi : i < 52) : (clF cl (i : Int)).length ≤ 12 := by
  unfold clF liveC
  rw [if_pos (by omega), Int.toNat_natCast]
  cases e : cl i with
  | none => simp
  | some c => exact (h i hi c e).len
theorem shC_len {cl : Nat → Option (List Int)} (h : ∀ n, n < 52 → ∀ c, cl n = some c → Nrm c) : ∀ i, i ≤ 52 → (shC cl i).length ≤ 14 * i
  | 0, _ => by simp [shC]
  | i + 1, hi => by
    have := shC_len h i (by omega)
    have := clF_len h i (by omega)
    unfold shC; simp only [List.length_append, List.length_cons, List.length_nil]; omega
theorem wx_nl {h : Heap} {C X : Nat} {W : WC} {cl : Nat → Option (List Int)} {s : TS} {p : Nat} (w : WX h C X W cl s p) : ∀ n, n < 52 → ∀ c, cl n = some c → Nrm c := fun n hn c hc => ((w.i.lo n hn).a c hc).1
set_option maxHeartbeats 400000 in
theorem mark_spec_ (h : Heap) (P X C K : Nat) :
    FC Tryz.prog 28 (#[.agg #[.pointer (some ⟨P, 0, none⟩), .pointer (some ⟨X, 0, none⟩), .pointer (some ⟨C, 0, none⟩), .pointer (some ⟨K, 0, none⟩)]] : Array Value) h fun rv h' => rv = .tuple #[] ∧ Ext (fun _ => False) h h' := by
  refine FC_of [(0, .agg #[.pointer (some ⟨P, 0, none⟩), .pointer (some ⟨X, 0, none⟩), .pointer (some ⟨C, 0, none⟩), .pointer (some ⟨K, 0, none⟩)])] Tryz.func28 rfl Tryz.ntmps28 (by simp) rfl (fun R hR => ?_)
  refine V_reg T.mix (by kernel_rfl) ?_
  refine S_boxA rfl ?_
  generalize hh : Array.push h _ = h1
  have hbh1 : B h1 h.size #[.pointer (some ⟨P, 0, none⟩), .pointer (some ⟨X, 0, none⟩), .pointer (some ⟨C, 0, none⟩), .pointer (some ⟨K, 0, none⟩)] 34 := by rw [← hh]; exact B.new _ _ _
  have hEh1 : Ext (fun _ => False) h h1 := by rw [← hh]; exact Ext.push _ _ _
  have hsh1 : h1.size = h.size + 1 := by rw [← hh]; simp
  clear hh
  refine S_nilk [] (by simp only [proj, lk, reduceIte, Nat.reduceEqDiff]; rfl) ?_
  -- end
  refine hR _ _ (ret0 rfl ?_)
  exact ⟨rfl, hEh1⟩
set_option maxHeartbeats 400000 in
theorem counts_spec (h : Heap) (P X C K : Nat) :
    FC Tryz.prog 71 (#[.agg #[.pointer (some ⟨P, 0, none⟩), .pointer (some ⟨X, 0, none⟩), .pointer (some ⟨C, 0, none⟩), .pointer (some ⟨K, 0, none⟩)]] : Array Value) h fun rv h' => rv = .tuple #[.int .i64 (-1), .int .i64 (-1), .int .i64 (-1)] ∧ Ext (fun _ => False) h h' := by
  refine FC_of [(0, .agg #[.pointer (some ⟨P, 0, none⟩), .pointer (some ⟨X, 0, none⟩), .pointer (some ⟨C, 0, none⟩), .pointer (some ⟨K, 0, none⟩)])] Tryz.func71 rfl Tryz.ntmps71 (by simp) rfl (fun R hR => ?_)
  refine V_sr T.mix (by kernel_rfl) (fun K1 hK1 => ?_)
  refine S_boxA rfl ?_
  generalize hh : Array.push h _ = h1
  have hbh1 : B h1 h.size #[.pointer (some ⟨P, 0, none⟩), .pointer (some ⟨X, 0, none⟩), .pointer (some ⟨C, 0, none⟩), .pointer (some ⟨K, 0, none⟩)] 34 := by rw [← hh]; exact B.new _ _ _
  have hEh1 : Ext (fun _ => False) h h1 := by rw [← hh]; exact Ext.push _ _ _
  have hsh1 : h1.size = h.size + 1 := by rw [← hh]; simp
  clear hh
  refine S_as rfl ?_
  refine S_as rfl ?_
  refine S_as rfl ?_
  refine S_nil (hK1 _ _ (V_keep [] (by simp only [proj, lk, reduceIte, Nat.reduceEqDiff]; rfl) ?_)); clear hK1
  refine V_sr T.mix (by kernel_rfl) (fun K2 hK2 => ?_)
  refine S_as rfl ?_
  refine S_as rfl ?_
  refine S_as rfl ?_
  refine S_nil (hK2 _ _ (V_keep [2, 3, 4] (by simp only [proj, lk, reduceIte, Nat.reduceEqDiff]; rfl) ?_)); clear hK2
  refine V_ret ?_
  refine hR _ _ (ret3 rfl rfl rfl rfl ?_)
  exact ⟨rfl, hEh1⟩
set_option maxHeartbeats 400000 in
theorem asked_spec (h : Heap) (P X C K : Nat) :
    FC Tryz.prog 72 (#[.agg #[.pointer (some ⟨P, 0, none⟩), .pointer (some ⟨X, 0, none⟩), .pointer (some ⟨C, 0, none⟩), .pointer (some ⟨K, 0, none⟩)]] : Array Value) h fun rv h' => rv = .tuple #[.int .i64 (-1), .int .i64 (-1)] ∧ Ext (fun _ => False) h h' := by
  refine FC_of [(0, .agg #[.pointer (some ⟨P, 0, none⟩), .pointer (some ⟨X, 0, none⟩), .pointer (some ⟨C, 0, none⟩), .pointer (some ⟨K, 0, none⟩)])] Tryz.func72 rfl Tryz.ntmps72 (by simp) rfl (fun R hR => ?_)
  refine V_sr T.mix (by kernel_rfl) (fun K1 hK1 => ?_)
  refine S_boxA rfl ?_
  generalize hh : Array.push h _ = h1
  have hbh1 : B h1 h.size #[.pointer (some ⟨P, 0, none⟩), .pointer (some ⟨X, 0, none⟩), .pointer (some ⟨C, 0, none⟩), .pointer (some ⟨K, 0, none⟩)] 34 := by rw [← hh]; exact B.new _ _ _
  have hEh1 : Ext (fun _ => False) h h1 := by rw [← hh]; exact Ext.push _ _ _
  have hsh1 : h1.size = h.size + 1 := by rw [← hh]; simp
  clear hh
  refine S_as rfl ?_
  refine S_as rfl ?_
  refine S_nil (hK1 _ _ (V_keep [] (by simp only [proj, lk, reduceIte, Nat.reduceEqDiff]; rfl) ?_)); clear hK1
  refine V_sr T.mix (by kernel_rfl) (fun K2 hK2 => ?_)
  refine S_as rfl ?_
  refine S_as rfl ?_
  refine S_nil (hK2 _ _ (V_keep [2, 3] (by simp only [proj, lk, reduceIte, Nat.reduceEqDiff]; rfl) ?_)); clear hK2
  refine V_ret ?_
  refine hR _ _ (ret2 rfl rfl rfl ?_)
  exact ⟨rfl, hEh1⟩
set_option maxHeartbeats 400000 in
theorem said_spec (h : Heap) (P X C K : Nat) :
    FC Tryz.prog 76 (#[.agg #[.pointer (some ⟨P, 0, none⟩), .pointer (some ⟨X, 0, none⟩), .pointer (some ⟨C, 0, none⟩), .pointer (some ⟨K, 0, none⟩)]] : Array Value) h fun rv h' => rv = .tuple #[.slice none 0 0, .bool false] ∧ Ext (fun _ => False) h h' := by
  refine FC_of [(0, .agg #[.pointer (some ⟨P, 0, none⟩), .pointer (some ⟨X, 0, none⟩), .pointer (some ⟨C, 0, none⟩), .pointer (some ⟨K, 0, none⟩)])] Tryz.func76 rfl Tryz.ntmps76 (by simp) rfl (fun R hR => ?_)
  refine V_sr T.mix (by kernel_rfl) (fun K1 hK1 => ?_)
  refine S_boxA rfl ?_
  generalize hh : Array.push h _ = h1
  have hbh1 : B h1 h.size #[.pointer (some ⟨P, 0, none⟩), .pointer (some ⟨X, 0, none⟩), .pointer (some ⟨C, 0, none⟩), .pointer (some ⟨K, 0, none⟩)] 34 := by rw [← hh]; exact B.new _ _ _
  have hEh1 : Ext (fun _ => False) h h1 := by rw [← hh]; exact Ext.push _ _ _
  have hsh1 : h1.size = h.size + 1 := by rw [← hh]; simp
  clear hh
  refine S_as rfl ?_
  refine S_as rfl ?_
  refine S_nil (hK1 _ _ (V_keep [] (by simp only [proj, lk, reduceIte, Nat.reduceEqDiff]; rfl) ?_)); clear hK1
  refine V_sr T.mix (by kernel_rfl) (fun K2 hK2 => ?_)
  refine S_as rfl ?_
  refine S_as rfl ?_
  refine S_nil (hK2 _ _ (V_keep [2, 3] (by simp only [proj, lk, reduceIte, Nat.reduceEqDiff]; rfl) ?_)); clear hK2
  refine V_ret ?_
  refine hR _ _ (ret2 rfl rfl rfl ?_)
  exact ⟨rfl, hEh1⟩
set_option maxHeartbeats 400000 in
theorem jumps_spec (h : Heap) (P X C K : Nat) :
    FC Tryz.prog 78 (#[.agg #[.pointer (some ⟨P, 0, none⟩), .pointer (some ⟨X, 0, none⟩), .pointer (some ⟨C, 0, none⟩), .pointer (some ⟨K, 0, none⟩)]] : Array Value) h fun rv h' => rv = .tuple #[.slice none 0 0, .slice none 0 0, .bool false] ∧ Ext (fun _ => False) h h' := by
  refine FC_of [(0, .agg #[.pointer (some ⟨P, 0, none⟩), .pointer (some ⟨X, 0, none⟩), .pointer (some ⟨C, 0, none⟩), .pointer (some ⟨K, 0, none⟩)])] Tryz.func78 rfl Tryz.ntmps78 (by simp) rfl (fun R hR => ?_)
  refine V_sr T.mix (by kernel_rfl) (fun K1 hK1 => ?_)
  refine S_boxA rfl ?_
  generalize hh : Array.push h _ = h1
  have hbh1 : B h1 h.size #[.pointer (some ⟨P, 0, none⟩), .pointer (some ⟨X, 0, none⟩), .pointer (some ⟨C, 0, none⟩), .pointer (some ⟨K, 0, none⟩)] 34 := by rw [← hh]; exact B.new _ _ _
  have hEh1 : Ext (fun _ => False) h h1 := by rw [← hh]; exact Ext.push _ _ _
  have hsh1 : h1.size = h.size + 1 := by rw [← hh]; simp
  clear hh
  refine S_as rfl ?_
  refine S_as rfl ?_
  refine S_as rfl ?_
  refine S_nil (hK1 _ _ (V_keep [] (by simp only [proj, lk, reduceIte, Nat.reduceEqDiff]; rfl) ?_)); clear hK1
  refine V_sr T.mix (by kernel_rfl) (fun K2 hK2 => ?_)
  refine S_as rfl ?_
  refine S_as rfl ?_
  refine S_as rfl ?_
  refine S_nil (hK2 _ _ (V_keep [2, 3, 4] (by simp only [proj, lk, reduceIte, Nat.reduceEqDiff]; rfl) ?_)); clear hK2
  refine V_ret ?_
  refine hR _ _ (ret3 rfl rfl rfl rfl ?_)
  exact ⟨rfl, hEh1⟩
set_option maxHeartbeats 400000 in
theorem tape_spec (h : Heap) (P X C K : Nat) (sv : Value) :
    FC Tryz.prog 18 (#[.agg #[.pointer (some ⟨P, 0, none⟩), .pointer (some ⟨X, 0, none⟩), .pointer (some ⟨C, 0, none⟩), .pointer (some ⟨K, 0, none⟩)], sv] : Array Value) h fun rv h' => rv = .tuple #[] ∧ Ext (fun _ => False) h h' := by
  refine FC_of [(0, .agg #[.pointer (some ⟨P, 0, none⟩), .pointer (some ⟨X, 0, none⟩), .pointer (some ⟨C, 0, none⟩), .pointer (some ⟨K, 0, none⟩)]), (1, sv)] Tryz.func18 rfl Tryz.ntmps18 (by simp) rfl (fun R hR => ?_)
  refine V_keep [0] (by simp only [proj, lk, reduceIte, Nat.reduceEqDiff]; rfl) ?_
  refine V_reg T.mix (by kernel_rfl) ?_
  refine S_boxA rfl ?_
  generalize hh : Array.push h _ = h1
  have hbh1 : B h1 h.size #[.pointer (some ⟨P, 0, none⟩), .pointer (some ⟨X, 0, none⟩), .pointer (some ⟨C, 0, none⟩), .pointer (some ⟨K, 0, none⟩)] 34 := by rw [← hh]; exact B.new _ _ _
  have hEh1 : Ext (fun _ => False) h h1 := by rw [← hh]; exact Ext.push _ _ _
  have hsh1 : h1.size = h.size + 1 := by rw [← hh]; simp
  clear hh
  refine S_nilk [] (by simp only [proj, lk, reduceIte, Nat.reduceEqDiff]; rfl) ?_
  -- end
  refine hR _ _ (ret0 rfl ?_)
  exact ⟨rfl, hEh1⟩
set_option maxHeartbeats 400000 in
theorem worked_spec (h : Heap) (P X C K : Nat) (e q : Int) (sb : Bool) (ma : Option Addr) (mn mc : Nat) (pf : ByteArray) (cf rs : Int) :
    FC Tryz.prog 33 (#[.agg #[.pointer (some ⟨P, 0, none⟩), .pointer (some ⟨X, 0, none⟩), .pointer (some ⟨C, 0, none⟩), .pointer (some ⟨K, 0, none⟩)], .agg #[.int .i64 e, .int .i64 q, .bool sb, .slice ma mn mc, .string pf, .int .i64 cf, .int .i64 rs]] : Array Value) h fun rv h' => rv = .bool true ∧ Ext (fun _ => False) h h' := by
  refine FC_of [(0, .agg #[.pointer (some ⟨P, 0, none⟩), .pointer (some ⟨X, 0, none⟩), .pointer (some ⟨C, 0, none⟩), .pointer (some ⟨K, 0, none⟩)]), (1, .agg #[.int .i64 e, .int .i64 q, .bool sb, .slice ma mn mc, .string pf, .int .i64 cf, .int .i64 rs])] Tryz.func33 rfl Tryz.ntmps33 (by simp) rfl (fun R hR => ?_)
  refine V_sr T.mix (by kernel_rfl) (fun K1 hK1 => ?_)
  refine S_boxA rfl ?_
  generalize hh : Array.push h _ = h1
  have hbh1 : B h1 h.size #[.pointer (some ⟨P, 0, none⟩), .pointer (some ⟨X, 0, none⟩), .pointer (some ⟨C, 0, none⟩), .pointer (some ⟨K, 0, none⟩)] 34 := by rw [← hh]; exact B.new _ _ _
  have hEh1 : Ext (fun _ => False) h h1 := by rw [← hh]; exact Ext.push _ _ _
  have hsh1 : h1.size = h.size + 1 := by rw [← hh]; simp
  clear hh
  try clear b0 b1 b2 b3 b4
  obtain ⟨b0, b1, b2, b3, b4⟩ := bq4 (hbh1)
  refine S_boxA rfl ?_
  generalize hh : Array.push h1 _ = h2
  have hah2 : B h2 h1.size #[.int .i64 e, .int .i64 q, .bool sb, .slice ma mn mc, .string pf, .int .i64 cf, .int .i64 rs] 82 := by rw [← hh]; exact B.new _ _ _
  have hEh2 : Ext (fun _ => False) h1 h2 := by rw [← hh]; exact Ext.push _ _ _
  have hsh2 : h2.size = h1.size + 1 := by rw [← hh]; simp
  clear hh
  try clear b0 b1 b2 b3 b4
  obtain ⟨b0, b1, b2, b3, b4⟩ := bq4 (hbh1.ext hEh2 (fun f => f))
  refine S_as rfl ?_
  refine S_nil (hK1 _ _ (V_keep [2, 3] (by simp only [proj, lk, reduceIte, Nat.reduceEqDiff]; rfl) ?_)); clear hK1
  refine V_sr T.mix (by kernel_rfl) (fun K2 hK2 => ?_)
  refine S_ldnK T.ag34 rfl (fun K' hK' => ?_)
  simp (disch := omega) only [b0, b1, b2, b3, oPs_cons, oPs_nil, oP_some, Nat.reduceAdd, Nat.add_zero]
  refine hK' _ ?_; clear hK' K'
  refine S_call T.hb71 rfl ?_
  refine FC.mono (counts_spec h2 P X C K) ?_
  rintro v' h3 ⟨rfl, hE3⟩
  refine S_mv rfl ?_
  refine S_ex rfl rfl ?_
  refine S_ex rfl rfl ?_
  refine S_ex rfl rfl ?_
  refine S_as rfl ?_
  refine S_as rfl ?_
  refine S_as rfl ?_
  refine S_nil (hK2 _ _ (V_keep [3, 5, 6, 7] (by simp only [proj, lk, reduceIte, Nat.reduceEqDiff]; rfl) ?_)); clear hK2
  refine V_seq (fun K3 hK3 => ?_)
  refine V_sr T.mix (by kernel_rfl) (fun K4 hK4 => ?_)
  refine S_mv rfl ?_
  refine S_bin rfl rfl rfl ?_
  refine S_nil (hK4 _ _ (V_keep [3, 5, 6, 7, 15] (by simp only [proj, lk, reduceIte, Nat.reduceEqDiff]; rfl) ?_)); clear hK4
  refine V_condp rfl (fun c111 => ?_) (fun c111 => ?_)
  · skip
    refine V_sr T.mix (by kernel_rfl) (fun K5 hK5 => ?_)
    refine S_as rfl ?_
    refine S_nil (hK5 _ _ (V_keep [4] (by simp only [proj, lk, reduceIte, Nat.reduceEqDiff]; rfl) ?_)); clear hK5
    refine V_ret ?_
    refine hR _ _ (ret1 rfl rfl ?_)
    exact ⟨rfl, (hEh1.trans hEh2).trans hE3⟩
  · skip
    exfalso; omega
set_option maxHeartbeats 400000 in
theorem spoken_spec (h : Heap) (P X C K : Nat) (e q : Int) (sb : Bool) (ma : Option Addr) (mn mc : Nat) (pf : ByteArray) (cf rs : Int) :
    FC Tryz.prog 34 (#[.agg #[.pointer (some ⟨P, 0, none⟩), .pointer (some ⟨X, 0, none⟩), .pointer (some ⟨C, 0, none⟩), .pointer (some ⟨K, 0, none⟩)], .agg #[.int .i64 e, .int .i64 q, .bool sb, .slice ma mn mc, .string pf, .int .i64 cf, .int .i64 rs]] : Array Value) h fun rv h' => rv = .bool true ∧ Ext (fun _ => False) h h' := by
  refine FC_of [(0, .agg #[.pointer (some ⟨P, 0, none⟩), .pointer (some ⟨X, 0, none⟩), .pointer (some ⟨C, 0, none⟩), .pointer (some ⟨K, 0, none⟩)]), (1, .agg #[.int .i64 e, .int .i64 q, .bool sb, .slice ma mn mc, .string pf, .int .i64 cf, .int .i64 rs])] Tryz.func34 rfl Tryz.ntmps34 (by simp) rfl (fun R hR => ?_)
  refine V_sr T.mix (by kernel_rfl) (fun K1 hK1 => ?_)
  refine S_boxA rfl ?_
  generalize hh : Array.push h _ = h1
  have hbh1 : B h1 h.size #[.pointer (some ⟨P, 0, none⟩), .pointer (some ⟨X, 0, none⟩), .pointer (some ⟨C, 0, none⟩), .pointer (some ⟨K, 0, none⟩)] 34 := by rw [← hh]; exact B.new _ _ _
  have hEh1 : Ext (fun _ => False) h h1 := by rw [← hh]; exact Ext.push _ _ _
  have hsh1 : h1.size = h.size + 1 := by rw [← hh]; simp
  clear hh
  try clear b0 b1 b2 b3 b4
  obtain ⟨b0, b1, b2, b3, b4⟩ := bq4 (hbh1)
  refine S_boxA rfl ?_
  generalize hh : Array.push h1 _ = h2
  have hah2 : B h2 h1.size #[.int .i64 e, .int .i64 q, .bool sb, .slice ma mn mc, .string pf, .int .i64 cf, .int .i64 rs] 82 := by rw [← hh]; exact B.new _ _ _
  have hEh2 : Ext (fun _ => False) h1 h2 := by rw [← hh]; exact Ext.push _ _ _
  have hsh2 : h2.size = h1.size + 1 := by rw [← hh]; simp
  clear hh
  try clear b0 b1 b2 b3 b4
  obtain ⟨b0, b1, b2, b3, b4⟩ := bq4 (hbh1.ext hEh2 (fun f => f))
  refine S_as rfl ?_
  refine S_nil (hK1 _ _ (V_keep [2, 3] (by simp only [proj, lk, reduceIte, Nat.reduceEqDiff]; rfl) ?_)); clear hK1
  refine V_sr T.mix (by kernel_rfl) (fun K2 hK2 => ?_)
  refine S_ldnK T.ag34 rfl (fun K' hK' => ?_)
  simp (disch := omega) only [b0, b1, b2, b3, oPs_cons, oPs_nil, oP_some, Nat.reduceAdd, Nat.add_zero]
  refine hK' _ ?_; clear hK' K'
  refine S_call T.hb72 rfl ?_
  refine FC.mono (asked_spec h2 P X C K) ?_
  rintro v' h3 ⟨rfl, hE3⟩
  refine S_mv rfl ?_
  refine S_ex rfl rfl ?_
  refine S_ex rfl rfl ?_
  refine S_as rfl ?_
  refine S_as rfl ?_
  refine S_nil (hK2 _ _ (V_keep [3, 5, 6] (by simp only [proj, lk, reduceIte, Nat.reduceEqDiff]; rfl) ?_)); clear hK2
  refine V_seq (fun K3 hK3 => ?_)
  refine V_sr T.mix (by kernel_rfl) (fun K4 hK4 => ?_)
  refine S_mv rfl ?_
  refine S_bin rfl rfl rfl ?_
  refine S_nil (hK4 _ _ (V_keep [3, 5, 6, 14] (by simp only [proj, lk, reduceIte, Nat.reduceEqDiff]; rfl) ?_)); clear hK4
  refine V_condp rfl (fun c129 => ?_) (fun c129 => ?_)
  · skip
    refine V_sr T.mix (by kernel_rfl) (fun K5 hK5 => ?_)
    refine S_as rfl ?_
    refine S_nil (hK5 _ _ (V_keep [4] (by simp only [proj, lk, reduceIte, Nat.reduceEqDiff]; rfl) ?_)); clear hK5
    refine V_ret ?_
    refine hR _ _ (ret1 rfl rfl ?_)
    exact ⟨rfl, (hEh1.trans hEh2).trans hE3⟩
  · skip
    exfalso; omega
set_option maxHeartbeats 400000 in
theorem learnt_spec (h : Heap) (P X C K : Nat) (e q : Int) (sb : Bool) (ma : Option Addr) (mn mc : Nat) (pf : ByteArray) (cf rs : Int) :
    FC Tryz.prog 40 (#[.agg #[.pointer (some ⟨P, 0, none⟩), .pointer (some ⟨X, 0, none⟩), .pointer (some ⟨C, 0, none⟩), .pointer (some ⟨K, 0, none⟩)], .agg #[.int .i64 e, .int .i64 q, .bool sb, .slice ma mn mc, .string pf, .int .i64 cf, .int .i64 rs]] : Array Value) h fun rv h' => rv = .bool true ∧ Ext (fun _ => False) h h' := by
  refine FC_of [(0, .agg #[.pointer (some ⟨P, 0, none⟩), .pointer (some ⟨X, 0, none⟩), .pointer (some ⟨C, 0, none⟩), .pointer (some ⟨K, 0, none⟩)]), (1, .agg #[.int .i64 e, .int .i64 q, .bool sb, .slice ma mn mc, .string pf, .int .i64 cf, .int .i64 rs])] Tryz.func40 rfl Tryz.ntmps40 (by simp) rfl (fun R hR => ?_)
  refine V_sr T.mix (by kernel_rfl) (fun K1 hK1 => ?_)
  refine S_boxA rfl ?_
  generalize hh : Array.push h _ = h1
  have hbh1 : B h1 h.size #[.pointer (some ⟨P, 0, none⟩), .pointer (some ⟨X, 0, none⟩), .pointer (some ⟨C, 0, none⟩), .pointer (some ⟨K, 0, none⟩)] 34 := by rw [← hh]; exact B.new _ _ _
  have hEh1 : Ext (fun _ => False) h h1 := by rw [← hh]; exact Ext.push _ _ _
  have hsh1 : h1.size = h.size + 1 := by rw [← hh]; simp
  clear hh
  try clear b0 b1 b2 b3 b4
  obtain ⟨b0, b1, b2, b3, b4⟩ := bq4 (hbh1)
  refine S_boxA rfl ?_
  generalize hh : Array.push h1 _ = h2
  have hah2 : B h2 h1.size #[.int .i64 e, .int .i64 q, .bool sb, .slice ma mn mc, .string pf, .int .i64 cf, .int .i64 rs] 82 := by rw [← hh]; exact B.new _ _ _
  have hEh2 : Ext (fun _ => False) h1 h2 := by rw [← hh]; exact Ext.push _ _ _
  have hsh2 : h2.size = h1.size + 1 := by rw [← hh]; simp
  clear hh
  try clear b0 b1 b2 b3 b4
  obtain ⟨b0, b1, b2, b3, b4⟩ := bq4 (hbh1.ext hEh2 (fun f => f))
  refine S_as rfl ?_
  refine S_nil (hK1 _ _ (V_keep [2, 3] (by simp only [proj, lk, reduceIte, Nat.reduceEqDiff]; rfl) ?_)); clear hK1
  refine V_sr T.mix (by kernel_rfl) (fun K2 hK2 => ?_)
  refine S_ldnK T.ag34 rfl (fun K' hK' => ?_)
  simp (disch := omega) only [b0, b1, b2, b3, oPs_cons, oPs_nil, oP_some, Nat.reduceAdd, Nat.add_zero]
  refine hK' _ ?_; clear hK' K'
  refine S_call T.hb76 rfl ?_
  refine FC.mono (said_spec h2 P X C K) ?_
  rintro v' h3 ⟨rfl, hE3⟩
  refine S_mv rfl ?_
  refine S_ex rfl rfl ?_
  refine S_ex rfl rfl ?_
  refine S_as rfl ?_
  refine S_as rfl ?_
  refine S_nil (hK2 _ _ (V_keep [2, 3, 5, 6] (by simp only [proj, lk, reduceIte, Nat.reduceEqDiff]; rfl) ?_)); clear hK2
  refine V_seq (fun K3 hK3 => ?_)
  refine V_sr T.mix (by kernel_rfl) (fun K4 hK4 => ?_)
  refine S_mv rfl ?_
  refine S_notb rfl ?_
  refine S_nil (hK4 _ _ (V_keep [2, 3, 5, 23] (by simp only [proj, lk, reduceIte, Nat.reduceEqDiff]; rfl) ?_)); clear hK4
  refine V_condb rfl (fun c267 => ?_) (fun c267 => ?_)
  · skip
    refine V_sr T.mix (by kernel_rfl) (fun K5 hK5 => ?_)
    refine S_as rfl ?_
    refine S_nil (hK5 _ _ (V_keep [4] (by simp only [proj, lk, reduceIte, Nat.reduceEqDiff]; rfl) ?_)); clear hK5
    refine V_ret ?_
    refine hR _ _ (ret1 rfl rfl ?_)
    exact ⟨rfl, (hEh1.trans hEh2).trans hE3⟩
  · skip
    exfalso; simp at c267
set_option maxHeartbeats 400000 in
theorem jumped_spec (h : Heap) (P X C K : Nat) :
    FC Tryz.prog 41 (#[.agg #[.pointer (some ⟨P, 0, none⟩), .pointer (some ⟨X, 0, none⟩), .pointer (some ⟨C, 0, none⟩), .pointer (some ⟨K, 0, none⟩)]] : Array Value) h fun rv h' => rv = .bool true ∧ Ext (fun _ => False) h h' := by
  refine FC_of [(0, .agg #[.pointer (some ⟨P, 0, none⟩), .pointer (some ⟨X, 0, none⟩), .pointer (some ⟨C, 0, none⟩), .pointer (some ⟨K, 0, none⟩)])] Tryz.func41 rfl Tryz.ntmps41 (by simp) rfl (fun R hR => ?_)
  refine V_sr T.mix (by kernel_rfl) (fun K1 hK1 => ?_)
  refine S_boxA rfl ?_
  generalize hh : Array.push h _ = h1
  have hbh1 : B h1 h.size #[.pointer (some ⟨P, 0, none⟩), .pointer (some ⟨X, 0, none⟩), .pointer (some ⟨C, 0, none⟩), .pointer (some ⟨K, 0, none⟩)] 34 := by rw [← hh]; exact B.new _ _ _
  have hEh1 : Ext (fun _ => False) h h1 := by rw [← hh]; exact Ext.push _ _ _
  have hsh1 : h1.size = h.size + 1 := by rw [← hh]; simp
  clear hh
  try clear b0 b1 b2 b3 b4
  obtain ⟨b0, b1, b2, b3, b4⟩ := bq4 (hbh1)
  refine S_as rfl ?_
  refine S_nil (hK1 _ _ (V_keep [1] (by simp only [proj, lk, reduceIte, Nat.reduceEqDiff]; rfl) ?_)); clear hK1
  refine V_sr T.mix (by kernel_rfl) (fun K2 hK2 => ?_)
  refine S_ldnK T.ag34 rfl (fun K' hK' => ?_)
  simp (disch := omega) only [b0, b1, b2, b3, oPs_cons, oPs_nil, oP_some, Nat.reduceAdd, Nat.add_zero]
  refine hK' _ ?_; clear hK' K'
  refine S_call T.hb78 rfl ?_
  refine FC.mono (jumps_spec h1 P X C K) ?_
  rintro v' h3 ⟨rfl, hE3⟩
  refine S_mv rfl ?_
  refine S_ex rfl rfl ?_
  refine S_ex rfl rfl ?_
  refine S_ex rfl rfl ?_
  refine S_as rfl ?_
  refine S_as rfl ?_
  refine S_as rfl ?_
  refine S_nil (hK2 _ _ (V_keep [3, 4, 5] (by simp only [proj, lk, reduceIte, Nat.reduceEqDiff]; rfl) ?_)); clear hK2
  refine V_seq (fun K3 hK3 => ?_)
  refine V_sr T.mix (by kernel_rfl) (fun K4 hK4 => ?_)
  refine S_mv rfl ?_
  refine S_notb rfl ?_
  refine S_nil (hK4 _ _ (V_keep [3, 4, 18] (by simp only [proj, lk, reduceIte, Nat.reduceEqDiff]; rfl) ?_)); clear hK4
  refine V_condb rfl (fun c303 => ?_) (fun c303 => ?_)
  · skip
    refine V_sr T.mix (by kernel_rfl) (fun K5 hK5 => ?_)
    refine S_as rfl ?_
    refine S_nil (hK5 _ _ (V_keep [2] (by simp only [proj, lk, reduceIte, Nat.reduceEqDiff]; rfl) ?_)); clear hK5
    refine V_ret ?_
    refine hR _ _ (ret1 rfl rfl ?_)
    exact ⟨rfl, hEh1.trans hE3⟩
  · skip
    exfalso; simp at c303
set_option maxHeartbeats 400000 in
theorem same_spec (h : Heap) (e q : Int) (sb : Bool) (ma : Option Addr) (mn mc : Nat) (pf : ByteArray) (cf rs : Int) (ma2 : Option Addr) (mn2 mc2 : Nat) (pf2 : ByteArray) (cf2 rs2 : Int) :
    FC Tryz.prog 31 (#[.agg #[.int .i64 e, .int .i64 q, .bool sb, .slice ma mn mc, .string pf, .int .i64 cf, .int .i64 rs], .agg #[.int .i64 e, .int .i64 q, .bool sb, .slice ma2 mn2 mc2, .string pf2, .int .i64 cf2, .int .i64 rs2]] : Array Value) h fun rv h' => rv = .bool true ∧ Ext (fun _ => False) h h' := by
  refine FC_of [(0, .agg #[.int .i64 e, .int .i64 q, .bool sb, .slice ma mn mc, .string pf, .int .i64 cf, .int .i64 rs]), (1, .agg #[.int .i64 e, .int .i64 q, .bool sb, .slice ma2 mn2 mc2, .string pf2, .int .i64 cf2, .int .i64 rs2])] Tryz.func31 rfl Tryz.ntmps31 (by simp) rfl (fun R hR => ?_)
  refine V_sr T.mix (by kernel_rfl) (fun K1 hK1 => ?_)
  refine S_boxA rfl ?_
  generalize hh : Array.push h _ = h1
  have hah1 : B h1 h.size #[.int .i64 e, .int .i64 q, .bool sb, .slice ma mn mc, .string pf, .int .i64 cf, .int .i64 rs] 82 := by rw [← hh]; exact B.new _ _ _
  have hEh1 : Ext (fun _ => False) h h1 := by rw [← hh]; exact Ext.push _ _ _
  have hsh1 : h1.size = h.size + 1 := by rw [← hh]; simp
  clear hh
  refine S_boxA rfl ?_
  generalize hh : Array.push h1 _ = h2
  have hah2 : B h2 h1.size #[.int .i64 e, .int .i64 q, .bool sb, .slice ma2 mn2 mc2, .string pf2, .int .i64 cf2, .int .i64 rs2] 82 := by rw [← hh]; exact B.new _ _ _
  have hEh2 : Ext (fun _ => False) h1 h2 := by rw [← hh]; exact Ext.push _ _ _
  have hsh2 : h2.size = h1.size + 1 := by rw [← hh]; simp
  clear hh
  obtain ⟨a0, a1, a2, a3, a4, a5, a6⟩ := aq7 (hah1.ext hEh2 (fun f => f))
  obtain ⟨m0, m1, m2, m3, m4, m5, m6⟩ := aq7 (hah2)
  refine S_as rfl ?_
  refine S_nil (hK1 _ _ (V_keep [2, 3] (by simp only [proj, lk, reduceIte, Nat.reduceEqDiff]; rfl) ?_)); clear hK1
  refine V_sr T.mix (by kernel_rfl) (fun K2 hK2 => ?_)
  first | refine S_fa0 T.f82_0 rfl ?_ | refine S_fa T.f82_0 rfl ?_
  refine S_ldK T.ag54 rfl (fun K' hK' => ?_)
  simp (disch := omega) only [a0, a1, a2, m0, m1, m2, oP_some, Nat.add_zero]
  refine hK' _ ?_; clear hK' K'
  first | refine S_fa0 T.f82_0 rfl ?_ | refine S_fa T.f82_0 rfl ?_
  refine S_ldK T.ag54 rfl (fun K' hK' => ?_)
  simp (disch := omega) only [a0, a1, a2, m0, m1, m2, oP_some, Nat.add_zero]
  refine hK' _ ?_; clear hK' K'
  refine S_bin rfl rfl rfl ?_
  refine S_mv rfl ?_
  refine S_dec (fun g75 => ?_) (fun g75 => ?_)
  · skip
    refine S_gt rfl ?_
    first | refine S_fa0 T.f82_1 rfl ?_ | refine S_fa T.f82_1 rfl ?_
    refine S_gt rfl ?_
    refine S_ldK T.ag3 rfl (fun K' hK' => ?_)
    simp (disch := omega) only [a0, a1, a2, m0, m1, m2, oP_some, Nat.add_zero]
    refine hK' _ ?_; clear hK' K'
    refine S_gt rfl ?_
    first | refine S_fa0 T.f82_1 rfl ?_ | refine S_fa T.f82_1 rfl ?_
    refine S_gt rfl ?_
    refine S_ldK T.ag3 rfl (fun K' hK' => ?_)
    simp (disch := omega) only [a0, a1, a2, m0, m1, m2, oP_some, Nat.add_zero]
    refine hK' _ ?_; clear hK' K'
    refine S_gt rfl ?_
    refine S_bin rfl rfl rfl ?_
    refine S_pt rfl rfl ?_
    refine S_mv rfl ?_
    refine S_dec (fun g75a => ?_) (fun g75a => ?_)
    · skip
      refine S_gt rfl ?_
      first | refine S_fa0 T.f82_2 rfl ?_ | refine S_fa T.f82_2 rfl ?_
      refine S_gt rfl ?_
      refine S_ldK T.ag4 rfl (fun K' hK' => ?_)
      simp (disch := omega) only [a0, a1, a2, m0, m1, m2, oP_some, Nat.add_zero]
      refine hK' _ ?_; clear hK' K'
      refine S_gt rfl ?_
      first | refine S_fa0 T.f82_2 rfl ?_ | refine S_fa T.f82_2 rfl ?_
      refine S_gt rfl ?_
      refine S_ldK T.ag4 rfl (fun K' hK' => ?_)
      simp (disch := omega) only [a0, a1, a2, m0, m1, m2, oP_some, Nat.add_zero]
      refine hK' _ ?_; clear hK' K'
      refine S_gt rfl ?_
      refine S_bin rfl rfl (by simp only [binV, T.kd4]; rfl) ?_
      refine S_pt rfl rfl ?_
      refine S_as rfl ?_
      refine S_nil (hK2 _ _ (V_keep [4] (by simp only [proj, lk, reduceIte, Nat.reduceEqDiff]; rfl) ?_)); clear hK2
      refine V_ret ?_
      refine hR _ _ (ret1 rfl rfl ?_)
      first | (exfalso; omega) | (exfalso; simp_all; done) | exact ⟨by simp, hEh1.trans hEh2⟩
    · skip
      refine S_gf rfl ?_
      refine S_gf rfl ?_
      refine S_gf rfl ?_
      refine S_gf rfl ?_
      refine S_gf rfl ?_
      refine S_pf rfl rfl ?_
      refine S_as rfl ?_
      refine S_nil (hK2 _ _ (V_keep [4] (by simp only [proj, lk, reduceIte, Nat.reduceEqDiff]; rfl) ?_)); clear hK2
      refine V_ret ?_
      refine hR _ _ (ret1 rfl rfl ?_)
      first | (exfalso; omega) | (exfalso; simp_all; done) | exact ⟨by simp, hEh1.trans hEh2⟩
  · skip
    refine S_gf rfl ?_
    refine S_gf rfl ?_
    refine S_gf rfl ?_
    refine S_gf rfl ?_
    refine S_gf rfl ?_
    refine S_pf rfl rfl ?_
    refine S_mv rfl ?_
    refine S_gf rfl ?_
    refine S_gf rfl ?_
    refine S_gf rfl ?_
    refine S_gf rfl ?_
    refine S_gf rfl ?_
    refine S_pf rfl rfl ?_
    refine S_as rfl ?_
    refine S_nil (hK2 _ _ (V_keep [4] (by simp only [proj, lk, reduceIte, Nat.reduceEqDiff]; rfl) ?_)); clear hK2
    refine V_ret ?_
    refine hR _ _ (ret1 rfl rfl ?_)
    first | (exfalso; omega) | (exfalso; simp_all; done) | exact ⟨by simp, hEh1.trans hEh2⟩
set_option maxHeartbeats 400000 in
theorem bare_spec (h : Heap) (e q : Int) :
    FC Tryz.prog 35 (#[.agg #[.int .i64 e, .int .i64 q, .bool false, .slice none 0 0, .string ⟨#[]⟩, .int .i64 0, .int .i64 0]] : Array Value) h fun rv h' => rv = .bool true ∧ Ext (fun _ => False) h h' := by
  refine FC_of [(0, .agg #[.int .i64 e, .int .i64 q, .bool false, .slice none 0 0, .string ⟨#[]⟩, .int .i64 0, .int .i64 0])] Tryz.func35 rfl Tryz.ntmps35 (by simp) rfl (fun R hR => ?_)
  refine V_sr T.mix (by kernel_rfl) (fun K1 hK1 => ?_)
  refine S_boxA rfl ?_
  generalize hh : Array.push h _ = h1
  have hah1 : B h1 h.size #[.int .i64 e, .int .i64 q, .bool false, .slice none 0 0, .string ⟨#[]⟩, .int .i64 0, .int .i64 0] 82 := by rw [← hh]; exact B.new _ _ _
  have hEh1 : Ext (fun _ => False) h h1 := by rw [← hh]; exact Ext.push _ _ _
  have hsh1 : h1.size = h.size + 1 := by rw [← hh]; simp
  clear hh
  obtain ⟨a0, a1, a2, a3, a4, a5, a6⟩ := aq7 (hah1)
  refine S_as rfl ?_
  refine S_nil (hK1 _ _ (V_keep [1] (by simp only [proj, lk, reduceIte, Nat.reduceEqDiff]; rfl) ?_)); clear hK1
  refine V_seq (fun K2 hK2 => ?_)
  refine V_sr T.mix (by kernel_rfl) (fun K3 hK3 => ?_)
  first | refine S_fa0 T.f82_2 rfl ?_ | refine S_fa T.f82_2 rfl ?_
  refine S_ldK T.ag4 rfl (fun K' hK' => ?_)
  simp (disch := omega) only [a0, a1, a2, a3, a4, a5, a6, oP_some, Nat.add_zero]
  refine hK' _ ?_; clear hK' K'
  refine S_mv rfl ?_
  refine S_decb (fun g102 => ?_) (fun g102 => ?_)
  · skip
    refine S_gf rfl ?_
    refine S_gf rfl ?_
    refine S_gf rfl ?_
    refine S_pt rfl rfl ?_
    refine S_mv rfl ?_
    refine S_gf rfl ?_
    refine S_gf rfl ?_
    refine S_gf rfl ?_
    refine S_pt rfl rfl ?_
    refine S_nil (hK3 _ _ (V_keep [1, 14] (by simp only [proj, lk, reduceIte, Nat.reduceEqDiff]; rfl) ?_)); clear hK3
    refine V_condt rfl ?_
    refine V_sr T.mix (by kernel_rfl) (fun K4 hK4 => ?_)
    refine S_as rfl ?_
    refine S_nil (hK4 _ _ (V_keep [2] (by simp only [proj, lk, reduceIte, Nat.reduceEqDiff]; rfl) ?_)); clear hK4
    refine V_ret ?_
    refine hR _ _ (ret1 rfl rfl ?_)
    first | (exfalso; omega) | (exfalso; simp_all; done) | exact ⟨by simp, hEh1⟩
  · skip
    refine S_gt rfl ?_
    first | refine S_fa0 T.f82_3 rfl ?_ | refine S_fa T.f82_3 rfl ?_
    refine S_gt rfl ?_
    refine S_ldK T.ag49 rfl (fun K' hK' => ?_)
    simp (disch := omega) only [a0, a1, a2, a3, a4, a5, a6, oP_some, Nat.add_zero]
    refine hK' _ ?_; clear hK' K'
    refine S_gt rfl ?_
    refine S_bin rfl rfl (by simp only [binV, T.kd49]; rfl) ?_
    refine S_pf rfl rfl ?_
    refine S_mv rfl ?_
    refine S_decb (fun g102a => ?_) (fun g102a => ?_)
    · skip
      refine S_gf rfl ?_
      refine S_gf rfl ?_
      refine S_gf rfl ?_
      refine S_pt rfl rfl ?_
      refine S_nil (hK3 _ _ (V_keep [1, 14] (by simp only [proj, lk, reduceIte, Nat.reduceEqDiff]; rfl) ?_)); clear hK3
      refine V_condt rfl ?_
      refine V_sr T.mix (by kernel_rfl) (fun K5 hK5 => ?_)
      refine S_as rfl ?_
      refine S_nil (hK5 _ _ (V_keep [2] (by simp only [proj, lk, reduceIte, Nat.reduceEqDiff]; rfl) ?_)); clear hK5
      refine V_ret ?_
      refine hR _ _ (ret1 rfl rfl ?_)
      first | (exfalso; omega) | (exfalso; simp_all; done) | exact ⟨by simp, hEh1⟩
    · skip
      refine S_gt rfl ?_
      first | refine S_fa0 T.f82_4 rfl ?_ | refine S_fa T.f82_4 rfl ?_
      refine S_gt rfl ?_
      refine S_ldK T.ag9 rfl (fun K' hK' => ?_)
      simp (disch := omega) only [a0, a1, a2, a3, a4, a5, a6, oP_some, Nat.add_zero]
      refine hK' _ ?_; clear hK' K'
      refine S_gt rfl ?_
      refine S_bin rfl rfl rfl ?_
      refine S_pf rfl rfl ?_
      refine S_nil (hK3 _ _ (V_keep [1, 14] (by simp only [proj, lk, reduceIte, Nat.reduceEqDiff]; rfl) ?_)); clear hK3
      refine V_condp rfl (fun c102 => ?_) (fun c102 => ?_)
      · skip
        refine V_sr T.mix (by kernel_rfl) (fun K6 hK6 => ?_)
        refine S_as rfl ?_
        refine S_nil (hK6 _ _ (V_keep [2] (by simp only [proj, lk, reduceIte, Nat.reduceEqDiff]; rfl) ?_)); clear hK6
        refine V_ret ?_
        refine hR _ _ (ret1 rfl rfl ?_)
        first | (exfalso; omega) | (exfalso; simp_all; done) | exact ⟨by simp, hEh1⟩
      · skip
        refine V_skipk [1] (by simp only [proj, lk, reduceIte, Nat.reduceEqDiff]; rfl) ?_
        refine hK2 _ _ ?_; clear hK2
        refine V_sr T.mix (by kernel_rfl) (fun K7 hK7 => ?_)
        first | refine S_fa0 T.f82_5 rfl ?_ | refine S_fa T.f82_5 rfl ?_
        refine S_ldK T.ag3 rfl (fun K' hK' => ?_)
        simp (disch := omega) only [a0, a1, a2, a3, a4, a5, a6, oP_some, Nat.add_zero]
        refine hK' _ ?_; clear hK' K'
        refine S_bin rfl rfl rfl ?_
        refine S_mv rfl ?_
        refine S_dec (fun g105 => ?_) (fun g105 => ?_)
        · skip
          refine S_gt rfl ?_
          first | refine S_fa0 T.f82_6 rfl ?_ | refine S_fa T.f82_6 rfl ?_
          refine S_gt rfl ?_
          refine S_ldK T.ag3 rfl (fun K' hK' => ?_)
          simp (disch := omega) only [a0, a1, a2, a3, a4, a5, a6, oP_some, Nat.add_zero]
          refine hK' _ ?_; clear hK' K'
          refine S_gt rfl ?_
          refine S_bin rfl rfl rfl ?_
          refine S_pt rfl rfl ?_
          refine S_as rfl ?_
          refine S_nil (hK7 _ _ (V_keep [2] (by simp only [proj, lk, reduceIte, Nat.reduceEqDiff]; rfl) ?_)); clear hK7
          refine V_ret ?_
          refine hR _ _ (ret1 rfl rfl ?_)
          first | (exfalso; omega) | (exfalso; simp_all; done) | exact ⟨by simp, hEh1⟩
        · skip
          refine S_gf rfl ?_
          refine S_gf rfl ?_
          refine S_gf rfl ?_
          refine S_pf rfl rfl ?_
          refine S_as rfl ?_
          refine S_nil (hK7 _ _ (V_keep [2] (by simp only [proj, lk, reduceIte, Nat.reduceEqDiff]; rfl) ?_)); clear hK7
          refine V_ret ?_
          refine hR _ _ (ret1 rfl rfl ?_)
          first | (exfalso; omega) | (exfalso; simp_all; done) | exact ⟨by simp, hEh1⟩
set_option maxHeartbeats 400000 in
theorem due_spec (h : Heap) (z : Nat) (hn : z ≤ 5000) :
    FC Tryz.prog 73 (#[.int .i64 (z : Int)] : Array Value) h fun rv h' => rv = .int .i64 ((dueF z : Nat) : Int) ∧ h = h' := by
  refine FC_of [(0, .int .i64 (z : Int))] Tryz.func73 rfl Tryz.ntmps73 (by simp) rfl (fun R hR => ?_)
  refine V_sr T.mix (by kernel_rfl) (fun K1 hK1 => ?_)
  refine S_as rfl ?_
  refine S_nil (hK1 _ _ (V_keep [0] (by simp only [proj, lk, reduceIte, Nat.reduceEqDiff]; rfl) ?_)); clear hK1
  refine V_sr T.mix (by kernel_rfl) (fun K2 hK2 => ?_)
  refine S_as rfl ?_
  refine S_nil (hK2 _ _ (V_keep [0, 3] (by simp only [proj, lk, reduceIte, Nat.reduceEqDiff]; rfl) ?_)); clear hK2
  refine V_seq (fun K3 hK3 => ?_)
  refine V_block ?_
  refine V_loop (fun m l h' => ∃ (r y : Nat), (r ≤ 4) ∧ (z = tri r + y) ∧ m = 4 - r ∧ l = [(0, .int .i64 (y : Int)), (3, .int .i64 (r : Int))] ∧ h = h') _ ⟨0, z, by omega, by simp [tri], rfl, rfl, rfl⟩ ?_
  rintro m l h' ⟨r, y, hr, hm, rfl, rfl, rfl⟩ K4 hK4
  have ht := tri_le hr
  refine V_seq (fun K5 hK5 => ?_)
  refine V_sr T.mix (by kernel_rfl) (fun K6 hK6 => ?_)
  refine S_mv rfl ?_
  refine S_bin rfl rfl rfl ?_
  refine S_nil (hK6 _ _ (V_keep [0, 3, 6] (by simp only [proj, lk, reduceIte, Nat.reduceEqDiff]; rfl) ?_)); clear hK6
  refine V_condp rfl (fun c142 => ?_) (fun c142 => ?_)
  · skip
    refine V_skipk [0, 3] (by simp only [proj, lk, reduceIte, Nat.reduceEqDiff]; rfl) ?_
    refine hK5 _ _ ?_; clear hK5
    refine V_block ?_
    refine V_sr T.mix (by kernel_rfl) (fun K7 hK7 => ?_)
    refine S_mv rfl ?_
    refine S_call T.hb16 rfl ?_
    refine FC.mono (interval_spec h r (by omega)) ?_
    rintro v' h' ⟨rfl, rfl⟩
    have hiv2 : ivF r ≤ 5 := by unfold ivF; split <;> omega
    refine S_as rfl ?_
    refine S_nil (hK7 _ _ (V_keep [0, 3, 4] (by simp only [proj, lk, reduceIte, Nat.reduceEqDiff]; rfl) ?_)); clear hK7
    refine V_seq (fun K8 hK8 => ?_)
    refine V_sr T.mix (by kernel_rfl) (fun K9 hK9 => ?_)
    refine S_mv rfl ?_
    refine S_mv rfl ?_
    refine S_bin rfl rfl rfl ?_
    refine S_nil (hK9 _ _ (V_keep [0, 3, 4, 11] (by simp only [proj, lk, reduceIte, Nat.reduceEqDiff]; rfl) ?_)); clear hK9
    refine V_condp rfl (fun c144 => ?_) (fun c144 => ?_)
    · skip
      refine V_sr T.mix (by kernel_rfl) (fun K10 hK10 => ?_)
      refine S_mv rfl ?_
      refine S_as rfl ?_
      refine S_nil (hK10 _ _ (V_keep [2] (by simp only [proj, lk, reduceIte, Nat.reduceEqDiff]; rfl) ?_)); clear hK10
      refine V_ret ?_
      refine hR _ _ (ret1 rfl rfl ?_)
      have hiv : ivF r = r + 1 := by unfold ivF; rw [if_pos (by omega)]
      exact ⟨by rw [due_eq hr hm (fun q => by omega)], rfl⟩
    · skip
      refine V_skipk [0, 3, 4] (by simp only [proj, lk, reduceIte, Nat.reduceEqDiff]; rfl) ?_
      refine hK8 _ _ ?_; clear hK8
      refine V_sr T.mix (by kernel_rfl) (fun K11 hK11 => ?_)
      refine S_mv rfl ?_
      refine S_mv rfl ?_
      first | refine S_sub rfl rfl (by omega) (by omega) ?_ | refine S_bin rfl rfl rfl ?_
      refine S_as rfl ?_
      refine S_nil (hK11 _ _ (V_keep [0, 3] (by simp only [proj, lk, reduceIte, Nat.reduceEqDiff]; rfl) ?_)); clear hK11
      refine V_reg T.mix (by kernel_rfl) ?_
      refine S_mv rfl ?_
      first | refine S_add rfl rfl (by omega) (by omega) ?_ | refine S_bin rfl rfl rfl ?_
      refine S_as rfl ?_
      refine S_nilk [0, 3] (by simp only [proj, lk, reduceIte, Nat.reduceEqDiff]; rfl) ?_
      have hts := tri_step (show r < 4 by omega)
      have hiv : ivF r = r + 1 := by unfold ivF; rw [if_pos (by omega)]
      exact hK4 _ _ ⟨_, by omega, r + 1, y - (r + 1), by omega, by omega, rfl, (by rw [hiv, show ((y : Int) - ((r + 1 : Nat) : Int)) = ((y - (r + 1) : Nat) : Int) by omega]; rfl), rfl⟩
  · skip
    refine V_exitk [3] rfl (by simp only [proj, lk, reduceIte, Nat.reduceEqDiff]; rfl) ?_
    refine hK3 _ _ ?_; clear hK3
    refine V_sr T.mix (by kernel_rfl) (fun K12 hK12 => ?_)
    refine S_mv rfl ?_
    refine S_as rfl ?_
    refine S_nil (hK12 _ _ (V_keep [2] (by simp only [proj, lk, reduceIte, Nat.reduceEqDiff]; rfl) ?_)); clear hK12
    refine V_ret ?_
    refine hR _ _ (ret1 rfl rfl ?_)
    exact ⟨by rw [due_eq hr hm (fun q => by omega)], rfl⟩
set_option maxHeartbeats 400000 in
theorem gauges_spec (h : Heap) (e q : Int) (sb : Bool) (ma : Option Addr) (mn mc : Nat) (pf : ByteArray) (cf rs f : Nat) (hf : cf = f + (if sb then 0 else 1)) (hl : cf ≤ 4106) (hr : rs = dueF f) :
    FC Tryz.prog 37 (#[.agg #[.int .i64 e, .int .i64 q, .bool sb, .slice ma mn mc, .string pf, .int .i64 (cf : Int), .int .i64 (rs : Int)]] : Array Value) h fun rv h' => rv = .bool true ∧ Ext (fun _ => False) h h' := by
  refine FC_of [(0, .agg #[.int .i64 e, .int .i64 q, .bool sb, .slice ma mn mc, .string pf, .int .i64 (cf : Int), .int .i64 (rs : Int)])] Tryz.func37 rfl Tryz.ntmps37 (by simp) rfl (fun R hR => ?_)
  refine V_sr T.mix (by kernel_rfl) (fun K1 hK1 => ?_)
  refine S_boxA rfl ?_
  generalize hh : Array.push h _ = h1
  have hah1 : B h1 h.size #[.int .i64 e, .int .i64 q, .bool sb, .slice ma mn mc, .string pf, .int .i64 (cf : Int), .int .i64 (rs : Int)] 82 := by rw [← hh]; exact B.new _ _ _
  have hEh1 : Ext (fun _ => False) h h1 := by rw [← hh]; exact Ext.push _ _ _
  have hsh1 : h1.size = h.size + 1 := by rw [← hh]; simp
  clear hh
  obtain ⟨a0, a1, a2, a3, a4, a5, a6⟩ := aq7 (hah1)
  refine S_as rfl ?_
  refine S_nil (hK1 _ _ (V_keep [1] (by simp only [proj, lk, reduceIte, Nat.reduceEqDiff]; rfl) ?_)); clear hK1
  refine V_sr T.mix (by kernel_rfl) (fun K2 hK2 => ?_)
  first | refine S_fa0 T.f82_5 rfl ?_ | refine S_fa T.f82_5 rfl ?_
  refine S_ldK T.ag3 rfl (fun K' hK' => ?_)
  simp (disch := omega) only [a2, a5, a6, oP_some, Nat.add_zero]
  refine hK' _ ?_; clear hK' K'
  refine S_as rfl ?_
  refine S_nil (hK2 _ _ (V_keep [1, 3] (by simp only [proj, lk, reduceIte, Nat.reduceEqDiff]; rfl) ?_)); clear hK2
  refine V_seqJ (fun l h' => l = [(1, .pointer (some ⟨h.size, 0, none⟩)), (3, .int .i64 (f : Int))] ∧ h1 = h') ?_ ?_
  · skip
    refine V_sr T.mix (by kernel_rfl) (fun K4 hK4 => ?_)
    first | refine S_fa0 T.f82_2 rfl ?_ | refine S_fa T.f82_2 rfl ?_
    refine S_ldK T.ag4 rfl (fun K' hK' => ?_)
    simp (disch := omega) only [a2, a5, a6, oP_some, Nat.add_zero]
    refine hK' _ ?_; clear hK' K'
    refine S_notb rfl ?_
    refine S_nil (hK4 _ _ (V_keep [1, 3, 9] (by simp only [proj, lk, reduceIte, Nat.reduceEqDiff]; rfl) ?_)); clear hK4
    refine V_condb rfl (fun c156 => ?_) (fun c156 => ?_)
    · skip
      refine V_reg T.mix (by kernel_rfl) ?_
      refine S_mv rfl ?_
      first | refine S_sub rfl rfl (by omega) (by omega) ?_ | refine S_bin rfl rfl rfl ?_
      refine S_as rfl ?_
      refine S_nilk [1, 3] (by simp only [proj, lk, reduceIte, Nat.reduceEqDiff]; rfl) ?_
      rw [show sb = false by simpa using c156, if_neg (by simp)] at hf
      exact ⟨by rw [show ((cf : Int) - 1) = (f : Int) by omega], rfl⟩
    · skip
      refine V_skipk [1, 3] (by simp only [proj, lk, reduceIte, Nat.reduceEqDiff]; rfl) ?_
      rw [show sb = true by simpa using c156, if_pos rfl] at hf
      exact ⟨by rw [show cf = f by omega], rfl⟩
  rintro l h' ⟨rfl, rfl⟩
  refine V_seq (fun K5 hK5 => ?_)
  refine V_sr T.mix (by kernel_rfl) (fun K6 hK6 => ?_)
  refine S_mv rfl ?_
  refine S_bin rfl rfl rfl ?_
  refine S_mv rfl ?_
  refine S_dec (fun g159 => ?_) (fun g159 => ?_)
  · skip
    refine S_gf rfl ?_
    refine S_gf rfl ?_
    refine S_gf rfl ?_
    refine S_pt rfl rfl ?_
    refine S_nil (hK6 _ _ (V_keep [1, 3, 18] (by simp only [proj, lk, reduceIte, Nat.reduceEqDiff]; rfl) ?_)); clear hK6
    refine V_condt rfl ?_
    refine V_sr T.mix (by kernel_rfl) (fun K7 hK7 => ?_)
    refine S_as rfl ?_
    refine S_nil (hK7 _ _ (V_keep [2] (by simp only [proj, lk, reduceIte, Nat.reduceEqDiff]; rfl) ?_)); clear hK7
    refine V_ret ?_
    refine hR _ _ (ret1 rfl rfl ?_)
    exfalso; omega
  · skip
    refine S_gt rfl ?_
    first | refine S_fa0 T.f82_5 rfl ?_ | refine S_fa T.f82_5 rfl ?_
    refine S_gt rfl ?_
    refine S_ldK T.ag3 rfl (fun K' hK' => ?_)
    simp (disch := omega) only [a2, a5, a6, oP_some, Nat.add_zero]
    refine hK' _ ?_; clear hK' K'
    refine S_gt rfl ?_
    refine S_bin rfl rfl rfl ?_
    refine S_pf rfl rfl ?_
    refine S_nil (hK6 _ _ (V_keep [1, 3, 18] (by simp only [proj, lk, reduceIte, Nat.reduceEqDiff]; rfl) ?_)); clear hK6
    refine V_condp rfl (fun c159 => ?_) (fun c159 => ?_)
    · skip
      refine V_sr T.mix (by kernel_rfl) (fun K8 hK8 => ?_)
      refine S_as rfl ?_
      refine S_nil (hK8 _ _ (V_keep [2] (by simp only [proj, lk, reduceIte, Nat.reduceEqDiff]; rfl) ?_)); clear hK8
      refine V_ret ?_
      refine hR _ _ (ret1 rfl rfl ?_)
      exfalso; omega
    · skip
      refine V_skipk [1, 3] (by simp only [proj, lk, reduceIte, Nat.reduceEqDiff]; rfl) ?_
      refine hK5 _ _ ?_; clear hK5
      refine V_sr T.mix (by kernel_rfl) (fun K9 hK9 => ?_)
      refine S_mv rfl ?_
      refine S_call T.hb73 rfl ?_
      refine FC.mono (due_spec h1 f (by omega)) ?_
      rintro v' h' ⟨rfl, rfl⟩
      refine S_as rfl ?_
      refine S_nil (hK9 _ _ (V_keep [1, 4] (by simp only [proj, lk, reduceIte, Nat.reduceEqDiff]; rfl) ?_)); clear hK9
      refine V_sr T.mix (by kernel_rfl) (fun K10 hK10 => ?_)
      first | refine S_fa0 T.f82_6 rfl ?_ | refine S_fa T.f82_6 rfl ?_
      refine S_ldK T.ag3 rfl (fun K' hK' => ?_)
      simp (disch := omega) only [a2, a5, a6, oP_some, Nat.add_zero]
      refine hK' _ ?_; clear hK' K'
      refine S_mv rfl ?_
      refine S_bin rfl rfl rfl ?_
      refine S_as rfl ?_
      refine S_nil (hK10 _ _ (V_keep [2] (by simp only [proj, lk, reduceIte, Nat.reduceEqDiff]; rfl) ?_)); clear hK10
      refine V_ret ?_
      refine hR _ _ (ret1 rfl rfl ?_)
      exact ⟨by rw [hr]; simp, hEh1⟩
set_option maxHeartbeats 400000 in
theorem flat_spec (h : Heap) (t : ByteArray) :
    FC Tryz.prog 70 (#[.string t] : Array Value) h fun rv h' => ∃ fl, rv = .agg #[.int .i64 (((parseF t).1 : Nat) : Int), .int .i64 (((parseF t).2.1 : Nat) : Int), .slice fl (parseF t).2.2.length (parseF t).2.2.length] ∧ IL h' fl (parseF t).2.2.length (parseF t).2.2 ∧ (∀ b, blkA fl = some b → h.size ≤ b) ∧ Ext (fun _ => False) h h' := by
  refine FC_of [(0, .string t)] Tryz.func70 rfl Tryz.ntmps70 (by simp) rfl (fun R hR => ?_)
  refine V_sr T.mix (by kernel_rfl) (fun K1 hK1 => ?_)
  refine S_allocA T.z115 ?_
  generalize hh : Array.push h _ = h1
  have hR1 : B h1 h.size #[.int .i64 0, .int .i64 0, .slice none 0 0] 115 := by rw [← hh]; exact B.new _ _ _
  have hEh1 : Ext (fun _ => False) h h1 := by rw [← hh]; exact Ext.push _ _ _
  have hsh1 : h1.size = h.size + 1 := by rw [← hh]; simp
  clear hh
  refine S_nil (hK1 _ _ (V_keep [0, 2] (by simp only [proj, lk, reduceIte, Nat.reduceEqDiff]; rfl) ?_)); clear hK1
  refine V_sr T.mix (by kernel_rfl) (fun K2 hK2 => ?_)
  refine S_call T.hb24 rfl ?_
  refine FC.mono (ChkW.mnew_spec h1) ?_
  rintro v' h2 ⟨rfl, hM2, hE2⟩
  have hs2 := hE2.1
  refine S_as rfl ?_
  refine S_nil (hK2 _ _ (V_keep [0, 2, 3] (by simp only [proj, lk, reduceIte, Nat.reduceEqDiff]; rfl) ?_)); clear hK2
  refine V_sr T.mix (by kernel_rfl) (fun K3 hK3 => ?_)
  refine S_mv rfl ?_
  refine S_mv rfl ?_
  refine S_call T.hb80 rfl ?_
  refine FC.mono (ChkW.mparse_spec h2 h1.size 0 0 hM2 t) ?_
  rintro v' h3 ⟨cs, rfl, ⟨fl, hfl, rfl, hI3, _⟩, hE3, _⟩
  have hR3 := (hR1.ext hE2 (fun f => f)).ext hE3 (fun e => by omega)
  have hs3 := hE3.1
  have hRok : ∀ j, j < 3 → okPut h3 ⟨h.size, j, none⟩ = true := fun j hj => hR3.ok (by simpa using hj)
  refine S_stl T.sz115 rfl rfl rfl rfl (fun j hj => by simp (disch := omega) only [hRok]) ?_
  generalize hh : putsH _ _ _ _ = h4
  have hR4 : B h4 (h.size) #[.int .i64 (((parseF t).1 : Nat) : Int), .int .i64 (((parseF t).2.1 : Nat) : Int), .slice fl (parseF t).2.2.length (parseF t).2.2.length] 115 := by rw [← hh]; exact B.puts_all (hR3) (cs' := #[.int .i64 (((parseF t).1 : Nat) : Int), .int .i64 (((parseF t).2.1 : Nat) : Int), .slice fl (parseF t).2.2.length (parseF t).2.2.length]) rfl
  have hEh4 : Ext (fun k => k = h.size) h3 h4 := by rw [← hh]; exact Ext.puts (S := fun k => k = h.size) rfl _ _ _
  clear hh
  refine S_nil (hK3 _ _ (V_keep [2] (by simp only [proj, lk, reduceIte, Nat.reduceEqDiff]; rfl) ?_)); clear hK3
  refine V_ret ?_
  refine hR _ _ (retc1 rfl rfl T.ag115 hR4 (by rfl) ?_)
  exact ⟨fl, rfl, IL.ext (l := (parseF t).2.2) hI3 hEh4 (fun b e f => by have h9 := hfl b e; omega), fun b e => by have h9 := hfl b e; omega, ((hEh1.trans hE2).step hE3 (fun b hb e => by omega)).step hEh4 (fun b hb e => by omega)⟩
set_option maxHeartbeats 400000 in
theorem prob_spec (h : Heap) (t : ByteArray) :
    FC Tryz.prog 38 (#[.string t] : Array Value) h fun rv h' => ∃ ca cc L lo, rv = .tuple #[.slice ca L.length cc, .int .i64 ((ChkW.prE t : Nat) : Int), .int .i64 ((ChkW.prP t : Nat) : Int)] ∧ h.size ≤ lo ∧ ChkW.LV lo h'.size h' ca cc L ∧ (ChkW.prE t = 0 → L = csOf t) ∧ Ext (fun _ => False) h h' := by
  refine FC_of [(0, .string t)] Tryz.func38 rfl Tryz.ntmps38 (by simp) rfl (fun R hR => ?_)
  refine V_sr T.mix (by kernel_rfl) (fun K1 hK1 => ?_)
  refine S_as rfl ?_
  refine S_as rfl ?_
  refine S_as rfl ?_
  refine S_nil (hK1 _ _ (V_keep [0] (by simp only [proj, lk, reduceIte, Nat.reduceEqDiff]; rfl) ?_)); clear hK1
  refine V_sr T.mix (by kernel_rfl) (fun K2 hK2 => ?_)
  refine S_call T.hb24 rfl ?_
  refine FC.mono (ChkW.mnew_spec h) ?_
  rintro v' h2 ⟨rfl, hM2, hE2⟩
  have hs2 := hE2.1
  refine S_as rfl ?_
  refine S_nil (hK2 _ _ (V_keep [0, 5] (by simp only [proj, lk, reduceIte, Nat.reduceEqDiff]; rfl) ?_)); clear hK2
  refine V_sr T.mix (by kernel_rfl) (fun K3 hK3 => ?_)
  refine S_mv rfl ?_
  refine S_mv rfl ?_
  refine S_call T.hb65 rfl ?_
  refine FC.mono (ChkW.problem_spec h2 h.size 0 0 hM2 t) ?_
  rintro v' h3 ⟨ca, cc, L, rfl, hlv, hL, hE3, _⟩
  refine S_ex rfl rfl ?_
  refine S_ex rfl rfl ?_
  refine S_ex rfl rfl ?_
  refine S_as rfl ?_
  refine S_as rfl ?_
  refine S_as rfl ?_
  refine S_nil (hK3 _ _ (V_keep [2, 3, 4] (by simp only [proj, lk, reduceIte, Nat.reduceEqDiff]; rfl) ?_)); clear hK3
  refine V_ret ?_
  refine hR _ _ (ret3 rfl rfl rfl rfl ?_)
  exact ⟨ca, cc, L, h2.size, rfl, by omega, hlv, hL, hE2.step hE3 (fun b hb e => by omega)⟩
set_option maxHeartbeats 400000 in
theorem judge_spec (h : Heap) :
    FC Tryz.prog 14 (#[] : Array Value) h fun rv h' => ∃ KC M, rv = .pointer (some ⟨KC, 0, none⟩) ∧ ChkW.KM h' KC M ∧ h.size ≤ M ∧ h.size ≤ KC ∧ Ext (fun _ => False) h h' := by
  refine FC_of [] Tryz.func14 rfl Tryz.ntmps14 (by simp) rfl (fun R hR => ?_)
  refine V_sr T.mix (by kernel_rfl) (fun K1 hK1 => ?_)
  refine S_as rfl ?_
  refine S_nil (hK1 _ _ (V_keep [] (by simp only [proj, lk, reduceIte, Nat.reduceEqDiff]; rfl) ?_)); clear hK1
  refine V_sr T.mix (by kernel_rfl) (fun K2 hK2 => ?_)
  refine S_call T.hb24 rfl ?_
  refine FC.mono (ChkW.mnew_spec h) ?_
  rintro v' h2 ⟨rfl, hM2, hE2⟩
  have hs2 := hE2.1
  have hMl := hM2.lt
  refine S_as rfl ?_
  refine S_nil (hK2 _ _ (V_keep [1] (by simp only [proj, lk, reduceIte, Nat.reduceEqDiff]; rfl) ?_)); clear hK2
  refine V_sr T.mix (by kernel_rfl) (fun K3 hK3 => ?_)
  refine S_mv rfl ?_
  refine S_call T.hb25 rfl ?_
  refine FC.mono (ChkW.mcnew_spec h2 h.size) ?_
  rintro v' h3 ⟨rfl, hKc, hE3⟩
  refine S_as rfl ?_
  refine S_nil (hK3 _ _ (V_keep [0] (by simp only [proj, lk, reduceIte, Nat.reduceEqDiff]; rfl) ?_)); clear hK3
  refine V_ret ?_
  refine hR _ _ (ret1 rfl rfl ?_)
  exact ⟨h2.size, h.size, rfl, ⟨hKc, ⟨0, 0, hM2.ext hE3 (fun f => f)⟩, by omega⟩, by omega, by omega, hE2.trans hE3⟩
set_option maxHeartbeats 800000 in
theorem refusal_spec (h : Heap) (t : ByteArray) :
    FC Tryz.prog 32 (#[.string t] : Array Value) h fun rv h' => rv = .tuple #[.int .i64 ((ChkW.prE t : Nat) : Int), .int .i64 ((ChkW.prP t : Nat) : Int)] ∧ Ext (fun _ => False) h h' := by
  obtain ⟨q0, q1, q2, qok, hcc⟩ : True ∧ True ∧ True ∧ True ∧ True := ⟨trivial, trivial, trivial, trivial, trivial⟩
  refine FC_of [(0, .string t)] Tryz.func32 rfl Tryz.ntmps32 (by simp) rfl (fun R hR => ?_)
  refine V_sr T.mix (by kernel_rfl) (fun K1 hK1 => ?_)
  refine S_as rfl ?_
  refine S_as rfl ?_
  refine S_nil (hK1 _ _ (V_keep [0] (by simp only [proj, lk, reduceIte, Nat.reduceEqDiff]; rfl) ?_)); clear hK1
  refine V_sr T.mix (by kernel_rfl) (fun K2 hK2 => ?_)
  refine S_mv rfl ?_
  refine S_call T.hb70 rfl ?_
  refine FC.mono (flat_spec h t) ?_
  rintro v' h1 ⟨fl, rfl, hI1, hfl, hE1⟩
  have hpl := ChkW.parse_len t
  refine S_allocA T.z115 ?_
  generalize hh : Array.push h1 _ = h2
  have hP2 : B h2 h1.size #[.int .i64 0, .int .i64 0, .slice none 0 0] 115 := by rw [← hh]; exact B.new _ _ _
  have hEh2 : Ext (fun _ => False) h1 h2 := by rw [← hh]; exact Ext.push _ _ _
  have hsh2 : h2.size = h1.size + 1 := by rw [← hh]; simp
  clear hh
  try clear q0 q1 q2 qok
  obtain ⟨q0, q1, q2, qok⟩ := pq3 (hP2)
  refine S_stl T.sz115 rfl rfl rfl rfl (fun j hj => by simp (disch := omega) only [qok]) ?_
  generalize hh : putsH _ _ _ _ = h3
  have hP3 : B h3 (h1.size) #[.int .i64 (((parseF t).1 : Nat) : Int), .int .i64 (((parseF t).2.1 : Nat) : Int), .slice fl (parseF t).2.2.length (parseF t).2.2.length] 115 := by rw [← hh]; exact B.puts_all (hP2) (cs' := #[.int .i64 (((parseF t).1 : Nat) : Int), .int .i64 (((parseF t).2.1 : Nat) : Int), .slice fl (parseF t).2.2.length (parseF t).2.2.length]) rfl
  have hEh3 : Ext (fun k => k = h1.size) h2 h3 := by rw [← hh]; exact Ext.puts (S := fun k => k = h1.size) rfl _ _ _
  clear hh
  try clear q0 q1 q2 qok
  obtain ⟨q0, q1, q2, qok⟩ := pq3 (hP3)
  have hE13 : Ext (fun _ => False) h1 h3 := hEh2.step hEh3 (fun z hz e => by omega)
  have hI3x := hI1.ext hE13 (fun _ _ f => f)
  have hE03 := hE1.trans hE13
  refine S_nil (hK2 _ _ (V_keep [4] (by simp only [proj, lk, reduceIte, Nat.reduceEqDiff]; rfl) ?_)); clear hK2
  refine V_seq (fun K3 hK3 => ?_)
  refine V_sr T.mix (by kernel_rfl) (fun K4 hK4 => ?_)
  first | refine S_fa0 T.f115_0 rfl ?_ | refine S_fa T.f115_0 rfl ?_
  refine S_ldK T.ag54 rfl (fun K' hK' => ?_)
  simp (disch := omega) only [q0, q1, q2, hcc, oP_some, Nat.add_zero]
  refine hK' _ ?_; clear hK' K'
  refine S_bin rfl rfl rfl ?_
  refine S_nil (hK4 _ _ (V_keep [4, 11] (by simp only [proj, lk, reduceIte, Nat.reduceEqDiff]; rfl) ?_)); clear hK4
  refine V_condp rfl (fun c82 => ?_) (fun c82 => ?_)
  · skip
    have hpe : (parseF t).1 = ChkW.prE t := by unfold ChkW.prE; rw [if_pos (by omega)]
    have hpp : (parseF t).2.1 = ChkW.prP t := by unfold ChkW.prP; rw [if_pos (by omega)]
    rw [hpe] at q0
    rw [hpp] at q1
    refine V_sr T.mix (by kernel_rfl) (fun K5 hK5 => ?_)
    first | refine S_fa0 T.f115_0 rfl ?_ | refine S_fa T.f115_0 rfl ?_
    refine S_ldK T.ag54 rfl (fun K' hK' => ?_)
    simp (disch := omega) only [q0, q1, q2, hcc, oP_some, Nat.add_zero]
    refine hK' _ ?_; clear hK' K'
    first | refine S_fa0 T.f115_1 rfl ?_ | refine S_fa T.f115_1 rfl ?_
    refine S_ldK T.ag3 rfl (fun K' hK' => ?_)
    simp (disch := omega) only [q0, q1, q2, hcc, oP_some, Nat.add_zero]
    refine hK' _ ?_; clear hK' K'
    refine S_as rfl ?_
    refine S_as rfl ?_
    refine S_nil (hK5 _ _ (V_keep [2, 3] (by simp only [proj, lk, reduceIte, Nat.reduceEqDiff]; rfl) ?_)); clear hK5
    refine V_ret ?_
    refine hR _ _ (ret2 rfl rfl rfl ?_)
    exact ⟨rfl, hE03⟩
  · skip
    have hp0 : (parseF t).1 = 0 := by omega
    obtain ⟨hfe, hN⟩ := rowsOf_ok (parseF_ok hp0).2
    obtain ⟨rows, hrw⟩ : ∃ rows, rows = rowsOf (parseF t).2.2 := ⟨_, rfl⟩
    rw [← hrw] at hfe hN
    have hI3 : IL h3 fl (parseF t).2.2.length (flatR rows) := by rw [hfe]; exact hI3x
    rw [← hfe] at hI3 hpl hP3 q2
    have hprE : ChkW.prE t = fitF rows := by unfold ChkW.prE; rw [if_neg (by omega), ← hrw]
    have hprP : ChkW.prP t = 0 := by unfold ChkW.prP; rw [if_neg (by omega)]
    rw [hprE, hprP] at hR
    refine V_skipk [4] (by simp only [proj, lk, reduceIte, Nat.reduceEqDiff]; rfl) ?_
    refine hK3 _ _ ?_; clear hK3
    refine V_sr T.mix (by kernel_rfl) (fun K6 hK6 => ?_)
    refine S_as rfl ?_
    refine S_nil (hK6 _ _ (V_keep [4, 5] (by simp only [proj, lk, reduceIte, Nat.reduceEqDiff]; rfl) ?_)); clear hK6
    refine V_seq (fun K7 hK7 => ?_)
    refine V_sr T.mix (by kernel_rfl) (fun K8 hK8 => ?_)
    refine S_as rfl ?_
    refine S_nil (hK8 _ _ (V_keep [4, 5, 6] (by simp only [proj, lk, reduceIte, Nat.reduceEqDiff]; rfl) ?_)); clear hK8
    refine V_block ?_
    refine V_loop (fun m l h' => ∃ (i y : Nat), (i ≤ (flatR rows).length) ∧ (y = ((flatR rows).take i).count 0) ∧ ((13 : Int) ∉ (flatR rows).take i) ∧ (y ≤ i) ∧ m = (flatR rows).length - i ∧ l = [(4, .pointer (some ⟨h1.size, 0, none⟩)), (5, .int .i64 (y : Int)), (6, .int .i64 (i : Int))] ∧ h3 = h') _ ⟨0, 0, by omega, by simp, by simp, by omega, rfl, rfl, rfl⟩ ?_
    rintro m l h' ⟨i, y, hi, hn, h13, hnl, rfl, rfl, rfl⟩ K9 hK9
    refine V_seq (fun K10 hK10 => ?_)
    refine V_sr T.mix (by kernel_rfl) (fun K11 hK11 => ?_)
    refine S_mv rfl ?_
    first | refine S_fa0 T.f115_2 rfl ?_ | refine S_fa T.f115_2 rfl ?_
    refine S_ldK T.ag49 rfl (fun K' hK' => ?_)
    simp (disch := omega) only [q0, q1, q2, hcc, oP_some, Nat.add_zero]
    refine hK' _ ?_; clear hK' K'
    refine S_lenl T.el49 rfl ?_
    refine S_bin rfl rfl rfl ?_
    refine S_nil (hK11 _ _ (V_keep [4, 5, 6, 20] (by simp only [proj, lk, reduceIte, Nat.reduceEqDiff]; rfl) ?_)); clear hK11
    refine V_condp rfl (fun c86 => ?_) (fun c86 => ?_)
    · skip
      obtain ⟨bb, rfl, _, hg, _⟩ := hI3.get (by omega)
      have hcc := hg i (by omega)
      refine V_skipk [4, 5, 6] (by simp only [proj, lk, reduceIte, Nat.reduceEqDiff]; rfl) ?_
      refine hK10 _ _ ?_; clear hK10
      refine V_seq (fun K12 hK12 => ?_)
      refine V_block ?_
      refine V_seq (fun K13 hK13 => ?_)
      refine V_sr T.mix (by kernel_rfl) (fun K14 hK14 => ?_)
      first | refine S_fa0 T.f115_2 rfl ?_ | refine S_fa T.f115_2 rfl ?_
      refine S_ldK T.ag49 rfl (fun K' hK' => ?_)
      simp (disch := omega) only [q0, q1, q2, hcc, oP_some, Nat.add_zero]
      refine hK' _ ?_; clear hK' K'
      refine S_mv rfl ?_
      first | refine S_ixn T.el49 rfl rfl (by omega) ?_ | refine S_ix1 T.el49 rfl rfl (by omega) (by omega) ?_ | refine S_ix T.el49 rfl rfl (by omega) (by omega) ?_
      refine S_ldK T.ag3 rfl (fun K' hK' => ?_)
      simp (disch := omega) only [q0, q1, q2, hcc, oP_some, Nat.add_zero]
      refine hK' _ ?_; clear hK' K'
      refine S_bin rfl rfl rfl ?_
      refine S_nil (hK14 _ _ (V_keep [4, 5, 6, 28] (by simp only [proj, lk, reduceIte, Nat.reduceEqDiff]; rfl) ?_)); clear hK14
      refine V_condp rfl (fun c87 => ?_) (fun c87 => ?_)
      · skip
        refine V_sr T.mix (by kernel_rfl) (fun K15 hK15 => ?_)
        refine S_as rfl ?_
        refine S_as rfl ?_
        refine S_nil (hK15 _ _ (V_keep [2, 3] (by simp only [proj, lk, reduceIte, Nat.reduceEqDiff]; rfl) ?_)); clear hK15
        refine V_ret ?_
        refine hR _ _ (ret2 rfl rfl rfl ?_)
        exact ⟨by rw [fit16 hN (by rw [← c87]; exact mem_at (by omega))]; rfl, hE03⟩
      · skip
        refine V_skipk [4, 5, 6] (by simp only [proj, lk, reduceIte, Nat.reduceEqDiff]; rfl) ?_
        refine hK13 _ _ ?_; clear hK13
        refine V_sr T.mix (by kernel_rfl) (fun K16 hK16 => ?_)
        first | refine S_fa0 T.f115_2 rfl ?_ | refine S_fa T.f115_2 rfl ?_
        refine S_ldK T.ag49 rfl (fun K' hK' => ?_)
        simp (disch := omega) only [q0, q1, q2, hcc, oP_some, Nat.add_zero]
        refine hK' _ ?_; clear hK' K'
        refine S_mv rfl ?_
        first | refine S_ixn T.el49 rfl rfl (by omega) ?_ | refine S_ix1 T.el49 rfl rfl (by omega) (by omega) ?_ | refine S_ix T.el49 rfl rfl (by omega) (by omega) ?_
        refine S_ldK T.ag3 rfl (fun K' hK' => ?_)
        simp (disch := omega) only [q0, q1, q2, hcc, oP_some, Nat.add_zero]
        refine hK' _ ?_; clear hK' K'
        refine S_bin rfl rfl rfl ?_
        refine S_nil (hK16 _ _ (V_keep [4, 5, 6, 34] (by simp only [proj, lk, reduceIte, Nat.reduceEqDiff]; rfl) ?_)); clear hK16
        refine V_condp rfl (fun c90 => ?_) (fun c90 => ?_)
        · skip
          refine V_reg T.mix (by kernel_rfl) ?_
          refine S_mv rfl ?_
          first | refine S_add rfl rfl (by omega) (by omega) ?_ | refine S_bin rfl rfl rfl ?_
          refine S_as rfl ?_
          refine S_nilk [4, 5, 6] (by simp only [proj, lk, reduceIte, Nat.reduceEqDiff]; rfl) ?_
          refine hK12 _ _ ?_; clear hK12
          refine V_reg T.mix (by kernel_rfl) ?_
          refine S_mv rfl ?_
          first | refine S_add rfl rfl (by omega) (by omega) ?_ | refine S_bin rfl rfl rfl ?_
          refine S_as rfl ?_
          refine S_nilk [4, 5, 6] (by simp only [proj, lk, reduceIte, Nat.reduceEqDiff]; rfl) ?_
          exact hK9 _ _ ⟨_, by omega, i + 1, y + 1, by omega, by rw [count_snoc (by omega), if_pos c90, hn], fun q => by rcases (mem_take_snoc (show i < (flatR rows).length by omega)).1 q with z | z; (exact h13 z); (exact c87 z.symm), by omega, rfl, rfl, rfl⟩
        · skip
          refine V_skipk [4, 5, 6] (by simp only [proj, lk, reduceIte, Nat.reduceEqDiff]; rfl) ?_
          refine hK12 _ _ ?_; clear hK12
          refine V_reg T.mix (by kernel_rfl) ?_
          refine S_mv rfl ?_
          first | refine S_add rfl rfl (by omega) (by omega) ?_ | refine S_bin rfl rfl rfl ?_
          refine S_as rfl ?_
          refine S_nilk [4, 5, 6] (by simp only [proj, lk, reduceIte, Nat.reduceEqDiff]; rfl) ?_
          exact hK9 _ _ ⟨_, by omega, i + 1, y, by omega, by rw [count_snoc (by omega), if_neg c90, hn]; rfl, fun q => by rcases (mem_take_snoc (show i < (flatR rows).length by omega)).1 q with z | z; (exact h13 z); (exact c87 z.symm), by omega, rfl, rfl, rfl⟩
    · skip
      have hie : i = (flatR rows).length := by omega
      rw [hie, List.take_length] at hn h13
      rw [count0 hN] at hn
      have hcc := trivial
      refine V_exitk [5] rfl (by simp only [proj, lk, reduceIte, Nat.reduceEqDiff]; rfl) ?_
      refine hK7 _ _ ?_; clear hK7
      refine V_seq (fun K17 hK17 => ?_)
      refine V_sr T.mix (by kernel_rfl) (fun K18 hK18 => ?_)
      refine S_mv rfl ?_
      refine S_bin rfl rfl rfl ?_
      refine S_nil (hK18 _ _ (V_keep [38] (by simp only [proj, lk, reduceIte, Nat.reduceEqDiff]; rfl) ?_)); clear hK18
      refine V_condp rfl (fun c94 => ?_) (fun c94 => ?_)
      · skip
        refine V_sr T.mix (by kernel_rfl) (fun K19 hK19 => ?_)
        refine S_as rfl ?_
        refine S_as rfl ?_
        refine S_nil (hK19 _ _ (V_keep [2, 3] (by simp only [proj, lk, reduceIte, Nat.reduceEqDiff]; rfl) ?_)); clear hK19
        refine V_ret ?_
        refine hR _ _ (ret2 rfl rfl rfl ?_)
        exact ⟨by rw [fit0 hN h13, if_pos (by omega)]; rfl, hE03⟩
      · skip
        refine V_skipk [] (by simp only [proj, lk, reduceIte, Nat.reduceEqDiff]; rfl) ?_
        refine hK17 _ _ ?_; clear hK17
        refine V_sr T.mix (by kernel_rfl) (fun K20 hK20 => ?_)
        refine S_as rfl ?_
        refine S_as rfl ?_
        refine S_nil (hK20 _ _ (V_keep [2, 3] (by simp only [proj, lk, reduceIte, Nat.reduceEqDiff]; rfl) ?_)); clear hK20
        refine V_ret ?_
        refine hR _ _ (ret2 rfl rfl rfl ?_)
        exact ⟨by rw [fit0 hN h13, if_neg (by omega)]; rfl, hE03⟩
set_option maxHeartbeats 1600000 in
theorem shot_spec (h : Heap) (P X C K : Nat) (W : WC) (cl : Nat → Option (List Int)) (s : TS) (p : Nat) (wx : WX h C X W cl s p) :
    FC Tryz.prog 27 (#[.agg #[.pointer (some ⟨P, 0, none⟩), .pointer (some ⟨X, 0, none⟩), .pointer (some ⟨C, 0, none⟩), .pointer (some ⟨K, 0, none⟩)]] : Array Value) h fun rv h' => ∃ a c, rv = .slice a (shotF s W.vis cl).length c ∧ OwnR h.size h' a (shotF s W.vis cl).length c (ints (shotF s W.vis cl)) 3 1 ∧ (shotF s W.vis cl).length ≤ 2000 ∧ Ext (fun _ => False) h h' := by
  have hok := wx.t.ok
  have h12 := TI.len hok
  have hdep := TI.dep hok
  have hcl := wx_nl wx
  refine FC_of [(0, .agg #[.pointer (some ⟨P, 0, none⟩), .pointer (some ⟨X, 0, none⟩), .pointer (some ⟨C, 0, none⟩), .pointer (some ⟨K, 0, none⟩)])] Tryz.func27 rfl Tryz.ntmps27 (by simp) rfl (fun R hR => ?_)
  refine V_sr T.mix (by kernel_rfl) (fun K1 hK1 => ?_)
  refine S_boxA rfl ?_
  generalize hh : Array.push h _ = h1
  have hbh1 : B h1 h.size #[.pointer (some ⟨P, 0, none⟩), .pointer (some ⟨X, 0, none⟩), .pointer (some ⟨C, 0, none⟩), .pointer (some ⟨K, 0, none⟩)] 34 := by rw [← hh]; exact B.new _ _ _
  have hEh1 : Ext (fun _ => False) h h1 := by rw [← hh]; exact Ext.push _ _ _
  have hsh1 : h1.size = h.size + 1 := by rw [← hh]; simp
  clear hh
  try clear b0 b1 b2 b3 b4
  obtain ⟨b0, b1, b2, b3, b4⟩ := bq4 (hbh1)
  have hs1 := hEh1.1
  have wx1 := wx.ext hEh1 (fun f => f) (fun f => f)
  refine S_as rfl ?_
  refine S_nil (hK1 _ _ (V_keep [1] (by simp only [proj, lk, reduceIte, Nat.reduceEqDiff]; rfl) ?_)); clear hK1
  refine V_sr T.mix (by kernel_rfl) (fun K2 hK2 => ?_)
  first | refine S_fa0 T.f34_1 rfl ?_ | refine S_fa T.f34_1 rfl ?_
  refine S_ldK T.ag30 rfl (fun K' hK' => ?_)
  simp (disch := omega) only [b0, b1, b2, b3, oP_some, Nat.add_zero]
  refine hK' _ ?_; clear hK' K'
  refine S_call T.hb47 rfl ?_
  refine FC.mono (level_spec h1 X s p wx1.t) ?_
  rintro v' h' ⟨rfl, rfl⟩
  refine S_as rfl ?_
  refine S_nil (hK2 _ _ (V_keep [1, 3] (by simp only [proj, lk, reduceIte, Nat.reduceEqDiff]; rfl) ?_)); clear hK2
  refine V_sr T.mix (by kernel_rfl) (fun K3 hK3 => ?_)
  first | refine S_fa0 T.f34_1 rfl ?_ | refine S_fa T.f34_1 rfl ?_
  refine S_ldK T.ag30 rfl (fun K' hK' => ?_)
  simp (disch := omega) only [b0, b1, b2, b3, oP_some, Nat.add_zero]
  refine hK' _ ?_; clear hK' K'
  refine S_call T.hb48 rfl ?_
  refine FC.mono (len_spec h1 X s p wx1.t) ?_
  rintro v' h' ⟨rfl, rfl⟩
  refine S_as rfl ?_
  refine S_nil (hK3 _ _ (V_keep [1, 3, 4] (by simp only [proj, lk, reduceIte, Nat.reduceEqDiff]; rfl) ?_)); clear hK3
  refine V_sr T.mix (by kernel_rfl) (fun K4 hK4 => ?_)
  first | refine S_fa0 T.f34_1 rfl ?_ | refine S_fa T.f34_1 rfl ?_
  refine S_ldK T.ag30 rfl (fun K' hK' => ?_)
  simp (disch := omega) only [b0, b1, b2, b3, oP_some, Nat.add_zero]
  refine hK' _ ?_; clear hK' K'
  refine S_call T.hb49 rfl ?_
  refine FC.mono (pending_spec h1 X s p wx1.t) ?_
  rintro v' h' ⟨rfl, rfl⟩
  refine S_as rfl ?_
  refine S_nil (hK4 _ _ (V_keep [1, 3, 4, 5] (by simp only [proj, lk, reduceIte, Nat.reduceEqDiff]; rfl) ?_)); clear hK4
  refine V_sr T.mix (by kernel_rfl) (fun K5 hK5 => ?_)
  first | refine S_fa0 T.f34_2 rfl ?_ | refine S_fa T.f34_2 rfl ?_
  refine S_ldK T.ag31 rfl (fun K' hK' => ?_)
  simp (disch := omega) only [b0, b1, b2, b3, oP_some, Nat.add_zero]
  refine hK' _ ?_; clear hK' K'
  refine S_call T.hb50 rfl ?_
  refine FC.mono (wvisits_spec h1 C X W wx1.b) ?_
  rintro v' h' ⟨rfl, rfl⟩
  refine S_as rfl ?_
  refine S_nil (hK5 _ _ (V_keep [1, 3, 4, 5, 6] (by simp only [proj, lk, reduceIte, Nat.reduceEqDiff]; rfl) ?_)); clear hK5
  refine V_sr T.mix (by kernel_rfl) (fun K6 hK6 => ?_)
  refine S_mv rfl ?_
  refine S_mv rfl ?_
  refine S_mv rfl ?_
  refine S_mv rfl ?_
  refine S_bs T.ei49 rfl (by decide) (by decide) (T.bs49_4_0_1_2_3 _ _ _ _) ?_
  generalize hh : Array.push h1 _ = h2
  have hO2 : OwnR h1.size h2 (some ⟨h1.size, 0, none⟩) [(s.k : Int), (s.L.length : Int), (s.L.length : Int) - (s.c : Int), (W.vis : Int)].length 4 (ints [(s.k : Int), (s.L.length : Int), (s.L.length : Int) - (s.c : Int), (W.vis : Int)]) 3 1 := by
    rw [← hh]
    refine .inr ⟨h1.size, _, rfl, Nat.le_refl _, B.new _ _ _, rfl, Nat.le_refl _, rfl, fun j hj => ?_⟩
    match j, hj with
    | 0, _ => rfl
    | 1, _ => rfl
    | 2, _ => rfl
    | 3, _ => rfl
  have hE2 : Ext (fun _ => False) h1 h2 := by rw [← hh]; exact Ext.push _ _ _
  clear hh
  refine S_as rfl ?_
  refine S_nil (hK6 _ _ (V_keep [1, 4, 7] (by simp only [proj, lk, reduceIte, Nat.reduceEqDiff]; rfl) ?_)); clear hK6
  refine V_seq (fun K7 hK7 => ?_)
  refine V_sr T.mix (by kernel_rfl) (fun K8 hK8 => ?_)
  refine S_as rfl ?_
  refine S_nil (hK8 _ _ (V_keep [1, 4, 7, 8] (by simp only [proj, lk, reduceIte, Nat.reduceEqDiff]; rfl) ?_)); clear hK8
  refine V_block ?_
  refine V_loop (fun m l h' => ∃ (i : Nat) (hk : Heap) (ak : Option Addr) (ck : Nat) (lz : List Int), (i ≤ s.L.length) ∧ (lz = [(s.k : Int), (s.L.length : Int), (s.L.length : Int) - (s.c : Int), (W.vis : Int)] ++ shL s i) ∧ (OwnR h1.size hk ak lz.length ck (ints lz) 3 1) ∧ (Ext (fun _ => False) h1 hk) ∧ m = s.L.length - i ∧ l = [(1, .pointer (some ⟨h.size, 0, none⟩)), (4, .int .i64 (s.L.length : Int)), (7, .slice ak lz.length ck), (8, .int .i64 (i : Int))] ∧ hk = h') _ ⟨0, h2, some ⟨h1.size, 0, none⟩, 4, [(s.k : Int), (s.L.length : Int), (s.L.length : Int) - (s.c : Int), (W.vis : Int)], by omega, by simp [shL], hO2, hE2, rfl, rfl, rfl⟩ ?_
  rintro m l h' ⟨i, hk, ak, ck, lz, hi, hlk, hown, hEk, rfl, rfl, rfl⟩ K9 hK9
  try clear b0 b1 b2 b3 b4
  obtain ⟨b0, b1, b2, b3, b4⟩ := bq4 (hbh1.ext hEk (fun f => f))
  have hsk := hEk.1
  have wxk := wx1.ext hEk (fun f => f) (fun f => f)
  have hll : lz.length = 4 + 3 * i := by rw [hlk, List.length_append, shL_len]; rfl
  have hok_ := hown
  refine V_seq (fun K10 hK10 => ?_)
  refine V_sr T.mix (by kernel_rfl) (fun K11 hK11 => ?_)
  refine S_mv rfl ?_
  refine S_mv rfl ?_
  refine S_bin rfl rfl rfl ?_
  refine S_nil (hK11 _ _ (V_keep [1, 4, 7, 8, 35] (by simp only [proj, lk, reduceIte, Nat.reduceEqDiff]; rfl) ?_)); clear hK11
  refine V_condp rfl (fun c57 => ?_) (fun c57 => ?_)
  · skip
    refine V_skipk [1, 4, 7, 8] (by simp only [proj, lk, reduceIte, Nat.reduceEqDiff]; rfl) ?_
    refine hK10 _ _ ?_; clear hK10
    refine V_seq (fun K12 hK12 => ?_)
    refine V_block ?_
    refine V_sr T.mix (by kernel_rfl) (fun K13 hK13 => ?_)
    first | refine S_fa0 T.f34_1 rfl ?_ | refine S_fa T.f34_1 rfl ?_
    refine S_ldK T.ag30 rfl (fun K' hK' => ?_)
    simp (disch := omega) only [b0, b1, b2, b3, oP_some, Nat.add_zero]
    refine hK' _ ?_; clear hK' K'
    refine S_mv rfl ?_
    refine S_call T.hb51 rfl ?_
    refine FC.mono (at_spec hk X s p wxk.t (i : Int)) ?_
    rintro v' h' ⟨rfl, rfl⟩
    obtain ⟨q_, hq_⟩ : ∃ x, x = atL s.L (i : Int) := ⟨_, rfl⟩
    have hgx := lev_at hok (show i < s.L.length by omega)
    rw [← hq_] at hgx ⊢
    unfold gd at hgx
    refine S_as rfl ?_
    refine S_nil (hK13 _ _ (V_keep [1, 4, 7, 8, 9] (by simp only [proj, lk, reduceIte, Nat.reduceEqDiff]; rfl) ?_)); clear hK13
    refine V_sr T.mix (by kernel_rfl) (fun K14 hK14 => ?_)
    refine S_mv rfl ?_
    refine S_call T.hb52 rfl ?_
    refine FC.mono (var_spec _ (q_) (by omega) (by omega)) ?_
    rintro v' h' ⟨rfl, rfl⟩
    refine S_as rfl ?_
    refine S_nil (hK14 _ _ (V_keep [1, 4, 7, 8, 9, 10] (by simp only [proj, lk, reduceIte, Nat.reduceEqDiff]; rfl) ?_)); clear hK14
    refine V_sr T.mix (by kernel_rfl) (fun K15 hK15 => ?_)
    first | refine S_fa0 T.f34_1 rfl ?_ | refine S_fa T.f34_1 rfl ?_
    refine S_ldK T.ag30 rfl (fun K' hK' => ?_)
    simp (disch := omega) only [b0, b1, b2, b3, oP_some, Nat.add_zero]
    refine hK' _ ?_; clear hK' K'
    refine S_mv rfl ?_
    refine S_call T.hb53 rfl ?_
    refine FC.mono (reason_spec hk X s p wxk.t (q_.natAbs : Int)) ?_
    rintro v' h' ⟨rfl, rfl⟩
    refine S_as rfl ?_
    refine S_nil (hK15 _ _ (V_keep [1, 4, 7, 8, 9, 10, 11] (by simp only [proj, lk, reduceIte, Nat.reduceEqDiff]; rfl) ?_)); clear hK15
    refine V_sr T.mix (by kernel_rfl) (fun K16 hK16 => ?_)
    first | refine S_fa0 T.f34_1 rfl ?_ | refine S_fa T.f34_1 rfl ?_
    refine S_ldK T.ag30 rfl (fun K' hK' => ?_)
    simp (disch := omega) only [b0, b1, b2, b3, oP_some, Nat.add_zero]
    refine hK' _ ?_; clear hK' K'
    refine S_mv rfl ?_
    refine S_call T.hb54 rfl ?_
    refine FC.mono (levelof_spec hk X s p wxk.t (q_.natAbs : Int)) ?_
    rintro v' h' ⟨rfl, rfl⟩
    refine S_as rfl ?_
    refine S_nil (hK16 _ _ (V_keep [1, 4, 7, 8, 9, 11, 12] (by simp only [proj, lk, reduceIte, Nat.reduceEqDiff]; rfl) ?_)); clear hK16
    refine V_reg T.mix (by kernel_rfl) ?_
    refine S_mv rfl ?_
    refine S_mv rfl ?_
    refine S_mv rfl ?_
    refine S_mv rfl ?_
    refine S_bs T.ei49 rfl (by decide) (by decide) (T.bs49_3_0_1_2 _ _ _) ?_
    refine S_appx (lo := h1.size) T.ei49 T.ni49 T.us49 rfl rfl rfl (OwnR.ext hok_ (Ext.push (fun _ => False) _ _) (fun _ _ f => f)) (by simp; omega) (cellsH_new _ _ _) rfl (by omega) (by decide) (by decide) rfl (fun a4 c4 h4 ho4 hE4x hb4x => ?_)
    have hE4 : Ext (fun z => blkA ak = some z) hk h4 := (Ext.push _ _ _).trans hE4x
    have hs4 := hE4.1
    refine S_as rfl ?_
    refine S_nilk [1, 4, 7, 8] (by simp only [proj, lk, reduceIte, Nat.reduceEqDiff]; rfl) ?_
    refine hK12 _ _ ?_; clear hK12
    refine V_reg T.mix (by kernel_rfl) ?_
    refine S_mv rfl ?_
    first | refine S_add rfl rfl (by omega) (by omega) ?_ | refine S_bin rfl rfl rfl ?_
    refine S_as rfl ?_
    refine S_nilk [1, 4, 7, 8] (by simp only [proj, lk, reduceIte, Nat.reduceEqDiff]; rfl) ?_
    exact hK9 _ _ ⟨_, by omega, i + 1, h4, a4, c4, lz ++ [q_, reaV s.L (q_.natAbs : Int), levV s.L (q_.natAbs : Int)], by omega, (by rw [hlk, hq_]; simp [shL]), (by rw [ints_app, List.length_append]; exact ho4), hEk.step hE4 (fun b hb e => by have h9 := (OwnR.blk2 hown e).1; omega), rfl, (by rw [List.length_append]; rfl), rfl⟩
  · skip
    refine V_exitk [1, 7] rfl (by simp only [proj, lk, reduceIte, Nat.reduceEqDiff]; rfl) ?_
    refine hK7 _ _ ?_; clear hK7
    refine V_seq (fun K17 hK17 => ?_)
    refine V_sr T.mix (by kernel_rfl) (fun K18 hK18 => ?_)
    refine S_as rfl ?_
    refine S_nil (hK18 _ _ (V_keep [1, 7, 13] (by simp only [proj, lk, reduceIte, Nat.reduceEqDiff]; rfl) ?_)); clear hK18
    refine V_block ?_
    refine V_loop (fun m l h' => ∃ (i : Nat) (hk : Heap) (ak : Option Addr) (ck : Nat) (lz : List Int), (i ≤ 52) ∧ (lz = [(s.k : Int), (s.L.length : Int), (s.L.length : Int) - (s.c : Int), (W.vis : Int)] ++ shL s s.L.length ++ shC cl i) ∧ (OwnR h1.size hk ak lz.length ck (ints lz) 3 1) ∧ (Ext (fun _ => False) h1 hk) ∧ m = 52 - i ∧ l = [(1, .pointer (some ⟨h.size, 0, none⟩)), (7, .slice ak lz.length ck), (13, .int .i64 (i : Int))] ∧ hk = h') _ ⟨0, hk, ak, ck, lz, by omega, by rw [hlk, show i = s.L.length by omega]; simp [shC], hown, hEk, rfl, rfl, rfl⟩ ?_
    rintro m l h' ⟨i, hk, ak, ck, lz, hi, hlk, hown, hEk, rfl, rfl, rfl⟩ K19 hK19
    try clear b0 b1 b2 b3 b4
    obtain ⟨b0, b1, b2, b3, b4⟩ := bq4 (hbh1.ext hEk (fun f => f))
    have hsk := hEk.1
    have wxk := wx1.ext hEk (fun f => f) (fun f => f)
    have hll : lz.length ≤ 40 + 14 * i := by have h9 := shC_len hcl i hi; have h8 := shL_len s s.L.length; rw [hlk, List.length_append, List.length_append]; simp only [List.length_cons, List.length_nil]; omega
    refine V_seq (fun K20 hK20 => ?_)
    refine V_sr T.mix (by kernel_rfl) (fun K21 hK21 => ?_)
    refine S_mv rfl ?_
    refine S_bin rfl rfl rfl ?_
    refine S_nil (hK21 _ _ (V_keep [1, 7, 13, 59] (by simp only [proj, lk, reduceIte, Nat.reduceEqDiff]; rfl) ?_)); clear hK21
    refine V_condp rfl (fun c64 => ?_) (fun c64 => ?_)
    · skip
      refine V_skipk [1, 7, 13] (by simp only [proj, lk, reduceIte, Nat.reduceEqDiff]; rfl) ?_
      refine hK20 _ _ ?_; clear hK20
      refine V_seq (fun K22 hK22 => ?_)
      refine V_block ?_
      refine V_sr T.mix (by kernel_rfl) (fun K23 hK23 => ?_)
      first | refine S_fa0 T.f34_2 rfl ?_ | refine S_fa T.f34_2 rfl ?_
      refine S_ldK T.ag31 rfl (fun K' hK' => ?_)
      simp (disch := omega) only [b0, b1, b2, b3, oP_some, Nat.add_zero]
      refine hK' _ ?_; clear hK' K'
      refine S_mv rfl ?_
      refine S_call T.hb15 rfl ?_
      refine FC.mono (wclause_spec hk C X W cl s p wxk (i : Int)) ?_
      rintro v' h5 ⟨a5, rfl, hI5, hn5, hb5, hE5⟩
      have hs5 := hE5.1
      have hcll := clF_len hcl i (by omega)
      have hok_ := OwnR.ext hown hE5 (fun _ _ f => f)
      refine S_mv rfl ?_
      refine S_ex rfl rfl ?_
      refine S_ex rfl rfl ?_
      refine S_as rfl ?_
      refine S_as rfl ?_
      refine S_nil (hK23 _ _ (V_keep [1, 7, 13, 14, 15] (by simp only [proj, lk, reduceIte, Nat.reduceEqDiff]; rfl) ?_)); clear hK23
      refine V_sr T.mix (by kernel_rfl) (fun K24 hK24 => ?_)
      refine S_mv rfl ?_
      refine S_mv rfl ?_
      refine S_bs T.ei49 rfl (by decide) (by decide) (T.bs49_1_0 _) ?_
      refine S_appx (lo := h1.size) T.ei49 T.ni49 T.us49 rfl rfl rfl (OwnR.ext hok_ (Ext.push (fun _ => False) _ _) (fun _ _ f => f)) (by simp; omega) (cellsH_new _ _ _) rfl (by omega) (by decide) (by decide) rfl (fun a6 c6 h6 ho6 hE6x hb6x => ?_)
      have hE6 : Ext (fun z => blkA ak = some z) h5 h6 := (Ext.push _ _ _).trans hE6x
      have hs6 := hE6.1
      have hI6 := hI5.ext hE6 (fun b e f => by have h9 := hb5 b e; have h8 := (OwnR.blk2 hown f).2; omega)
      have hE6b : Ext (fun _ => False) h1 h6 := (hEk.trans hE5).step hE6 (fun b hb e => by have h9 := (OwnR.blk2 hown e).1; omega)
      refine S_as rfl ?_
      refine S_nil (hK24 _ _ (V_keep [1, 7, 13, 14] (by simp only [proj, lk, reduceIte, Nat.reduceEqDiff]; rfl) ?_)); clear hK24
      refine V_sr T.mix (by kernel_rfl) (fun K25 hK25 => ?_)
      refine S_mv rfl ?_
      refine S_mv rfl ?_
      refine S_appx (lo := h1.size) T.ei49 T.ni49 T.us49 rfl rfl rfl ho6 (by omega) (OwnR.cells hI6) (by simp [ints]) (by omega) (by decide) (by decide) (List.all_eq_true.2 (ints_one _)) (fun a7 c7 h7 ho7 hE7 hb7 => ?_)
      have hs7 := hE7.1
      have hE7b : Ext (fun _ => False) h1 h7 := hE6b.step hE7 (fun b hb e => by have h9 := (OwnR.blk2 ho6 e).1; omega)
      refine S_as rfl ?_
      refine S_nil (hK25 _ _ (V_keep [1, 7, 13] (by simp only [proj, lk, reduceIte, Nat.reduceEqDiff]; rfl) ?_)); clear hK25
      refine V_reg T.mix (by kernel_rfl) ?_
      refine S_mv rfl ?_
      refine S_bs T.ei49 rfl (by decide) (by decide) (T.bs49_1_0 _) ?_
      refine S_appx (lo := h1.size) T.ei49 T.ni49 T.us49 rfl rfl rfl (OwnR.ext ho7 (Ext.push (fun _ => False) _ _) (fun _ _ f => f)) (by simp; omega) (cellsH_new _ _ _) rfl (by omega) (by decide) (by decide) rfl (fun a8 c8 h8 ho8 hE8x hb8x => ?_)
      have hE8 : Ext (fun z => blkA a7 = some z) h7 h8 := (Ext.push _ _ _).trans hE8x
      have hs8 := hE8.1
      have hE8b : Ext (fun _ => False) h1 h8 := hE7b.step hE8 (fun b hb e => by have h9 := (OwnR.blk2 ho7 e).1; omega)
      refine S_as rfl ?_
      refine S_nilk [1, 7, 13] (by simp only [proj, lk, reduceIte, Nat.reduceEqDiff]; rfl) ?_
      refine hK22 _ _ ?_; clear hK22
      refine V_reg T.mix (by kernel_rfl) ?_
      refine S_mv rfl ?_
      first | refine S_add rfl rfl (by omega) (by omega) ?_ | refine S_bin rfl rfl rfl ?_
      refine S_as rfl ?_
      refine S_nilk [1, 7, 13] (by simp only [proj, lk, reduceIte, Nat.reduceEqDiff]; rfl) ?_
      exact hK19 _ _ ⟨_, by omega, i + 1, h8, a8, c8, lz ++ [(clE cl (i : Int) : Int)] ++ clF cl (i : Int) ++ [0], by omega, (by rw [hlk]; simp [shC]), (by rw [ints_app, ints_app, ints_app, List.length_append, List.length_append, List.length_append]; exact ho8), hE8b, rfl, (by rw [List.length_append, List.length_append, List.length_append]; rfl), rfl⟩
    · skip
      refine V_exitk [7] rfl (by simp only [proj, lk, reduceIte, Nat.reduceEqDiff]; rfl) ?_
      refine hK17 _ _ ?_; clear hK17
      refine V_sr T.mix (by kernel_rfl) (fun K26 hK26 => ?_)
      refine S_mv rfl ?_
      refine S_as rfl ?_
      refine S_nil (hK26 _ _ (V_keep [2] (by simp only [proj, lk, reduceIte, Nat.reduceEqDiff]; rfl) ?_)); clear hK26
      refine V_ret ?_
      refine hR _ _ (ret1 rfl rfl ?_)
      rw [show i = 52 by omega] at hlk
      have hfe : shotF s W.vis cl = lz := by rw [hlk]; rfl
      rw [hfe]
      exact ⟨ak, ck, rfl, OwnR_up (by omega) hown, by omega, hEh1.trans hEk⟩
end Go.Proofs.Qxb6500401aGreat
