import Derived.Test.Qxb6500409aGreatSh
import Derived.Test.Qxb6500409aGreatEo
set_option linter.unusedVariables false
set_option linter.unusedSimpArgs false
namespace Go.Proofs.Qxb6500409aGreat
open Go.Eng Go.Bits Go.Blk HufW

/-! the bytes of a text as a row -/
theorem hob_cell {h : Heap} {s : ByteArray} {cap : Nat} {ob : Obj} (ho : Hob s cap ob) {j : Nat} (hj : j < s.size) : cellH (h.push ob) ⟨h.size, j, none⟩ = some (.int .u8 ((bAt s j : Nat) : Int)) := by
  obtain ⟨e, rfl⟩ := ho
  have hj' : j < s.data.size := hj
  unfold cellH
  simp only [Array.getElem?_push_size]
  unfold bytesRow
  rw [Array.getElem?_append_left (by simpa using hj'), Array.getElem?_map, Array.getElem?_eq_getElem hj']
  simp only [Option.isSome_none, Bool.false_eq_true, if_false, Option.map_some]
  unfold bAt
  rw [Array.getElem?_eq_getElem hj']
  rfl
theorem hob_ok {h : Heap} {s : ByteArray} {cap : Nat} {ob : Obj} (ho : Hob s cap ob) {j : Nat} (hj : j < s.size) : okPut (h.push ob) ⟨h.size, j, none⟩ = true := by
  unfold okPut
  rw [hob_cell ho hj]
  obtain ⟨e, rfl⟩ := ho
  unfold frozenH
  simp only [Array.getElem?_push_size]
  have : j < (bytesRow s cap).size := by unfold bytesRow; rw [Array.size_append, Array.size_map]; have : s.data.size = s.size := rfl; omega
  simp [show ¬ (bytesRow s cap).size ≤ j by omega]
theorem hob_put {h : Heap} {s : ByteArray} {cap : Nat} {ob : Obj} (ho : Hob s cap ob) {i : Nat} (x : Int) {j : Nat} (hj : j < s.size) : cellH (putH (h.push ob) ⟨h.size, i, none⟩ (.int .u8 x)) ⟨h.size, j, none⟩ = some (.int .u8 (if j = i then x else ((bAt s j : Nat) : Int))) := by
  have h1 := hob_cell (h := h) ho hj
  obtain ⟨e, rfl⟩ := ho
  unfold cellH at h1 ⊢
  simp only [Array.getElem?_push_size, Option.isSome_none, Bool.false_eq_true, if_false] at h1
  have hm : (putH (h.push (.cells (bytesRow s cap) e ((bytesRow s cap).size, (bytesRow s cap).size + 1))) ⟨h.size, i, none⟩ (.int .u8 x))[h.size]? = some (.cells ((bytesRow s cap).setIfInBounds i (.int .u8 x)) e ((bytesRow s cap).size, (bytesRow s cap).size + 1)) := by
    unfold putH
    rw [Array.getElem?_modify]
    simp
  rw [hm]
  simp only [Option.isSome_none, Bool.false_eq_true, if_false]
  have hlt : j < (bytesRow s cap).size := by
    rcases Nat.lt_or_ge j (bytesRow s cap).size with q | q
    · exact q
    · rw [Array.getElem?_eq_none q] at h1; cases h1
  rw [Array.getElem?_setIfInBounds]
  by_cases e2 : i = j
  · subst e2; simp [hlt]
  · rw [if_neg e2, if_neg (fun z => e2 z.symm), h1]
theorem cellsH_u8 {h : Heap} {b : Nat} {g : Nat → Int} : ∀ (n i : Nat), (∀ j, j < i + n → cellH h ⟨b, j, none⟩ = some (.int .u8 (g j))) → cellsH h ⟨b, 0, none⟩ i n = some (u8s ((List.range' i n).map g))
  | 0, i, _ => rfl
  | n + 1, i, hc => by
    simp only [cellsH, add_mk, Nat.zero_add]
    rw [hc i (by omega), cellsH_u8 n (i + 1) (fun j hj => hc j (by omega))]
    simp [u8s, List.range'_succ]
theorem srcV_cells {h : Heap} {b n c : Nat} {g : Nat → Int} (hc : ∀ j, j < n → cellH h ⟨b, j, none⟩ = some (.int .u8 (g j))) : srcV h 1 n (.slice (some ⟨b, 0, none⟩) n c) = some (u8s ((List.range n).map g)) := by
  simp only [srcV, Nat.mul_one]
  rw [cellsH_u8 n 0 (fun j hj => hc j (by omega)), List.range_eq_range']
/-! the answer's four fields -/
def pO (raw ch : ByteArray) (st n : Nat) : ByteArray := if st ≠ 0 ∨ 512 < raw.size + ch.size then ⟨#[]⟩ else mkS ((ruF (raw ++ ch)).out.drop n)
def pS (raw ch : ByteArray) (st : Nat) (l : Bool) : Nat := if st ≠ 0 ∨ 512 < raw.size + ch.size then 2 else stS (ruF (raw ++ ch)).e l
def pE (raw ch : ByteArray) (st : Nat) (l : Bool) : Nat := if st ≠ 0 then 12 else if 512 < raw.size + ch.size then 1 else if stS (ruF (raw ++ ch)).e l = 2 then (ruF (raw ++ ch)).e else 0
def pP (raw ch : ByteArray) (st : Nat) (l : Bool) : Nat := if st ≠ 0 ∨ 512 < raw.size + ch.size then 0 else if stS (ruF (raw ++ ch)).e l = 2 then (ruF (raw ++ ch)).pl else 0
def pV (raw ch : ByteArray) (st : Nat) (l : Bool) (n : Nat) : Array Value := #[.string (pO raw ch st n), .int .i64 ((pS raw ch st l : Nat) : Int), .int .i64 ((pE raw ch st l : Nat) : Int), .int .i64 ((pP raw ch st l : Nat) : Int)]
theorem stp_eq (raw ch : ByteArray) (st : Nat) (l : Bool) (n : Nat) : stpV raw ch st l n = #[.string (pO raw ch st n), .int .i64 ((pS raw ch st l : Nat) : Int), .int .i64 ((pE raw ch st l : Nat) : Int), .int .i64 ((pP raw ch st l : Nat) : Int)] := by
  by_cases h1 : st ≠ 0
  · unfold stpV pO pS pE pP
    rw [if_pos h1, if_pos (.inl h1), if_pos (.inl h1), if_pos h1, if_pos (.inl h1)]; rfl
  · by_cases h2 : 512 < raw.size + ch.size
    · unfold stpV pO pS pE pP
      rw [if_neg h1, if_pos h2, if_pos (.inr h2), if_pos (.inr h2), if_neg h1, if_pos h2, if_pos (.inr h2)]; rfl
    · have h3 : ¬ (st ≠ 0 ∨ 512 < raw.size + ch.size) := by omega
      unfold stpV pO pS pE pP
      rw [if_neg h1, if_neg h2, if_neg h3, if_neg h3, if_neg h1, if_neg h2, if_neg h3]
theorem p_st {raw ch : ByteArray} {st n : Nat} {l : Bool} (h : st ≠ 0) : pO raw ch st n = ⟨#[]⟩ ∧ pS raw ch st l = 2 ∧ pE raw ch st l = 12 ∧ pP raw ch st l = 0 := ⟨if_pos (.inl h), if_pos (.inl h), if_pos h, if_pos (.inl h)⟩
theorem p_lg {raw ch : ByteArray} {n : Nat} {l : Bool} (h : 512 < raw.size + ch.size) : pO raw ch 0 n = ⟨#[]⟩ ∧ pS raw ch 0 l = 2 ∧ pE raw ch 0 l = 1 ∧ pP raw ch 0 l = 0 := ⟨if_pos (.inr h), if_pos (.inr h), by unfold pE; rw [if_neg (by omega), if_pos h], if_pos (.inr h)⟩
theorem p_go {raw ch : ByteArray} {n : Nat} {l : Bool} (h : raw.size + ch.size ≤ 512) : pO raw ch 0 n = mkS ((ruF (raw ++ ch)).out.drop n) ∧ ((pS raw ch 0 l = 0 ∧ ((ruF (raw ++ ch)).e = 0 ∨ (ruF (raw ++ ch)).e = 4) ∧ pE raw ch 0 l = 0 ∧ pP raw ch 0 l = 0) ∨ (pS raw ch 0 l = 1 ∧ (ruF (raw ++ ch)).e = 0 ∧ pE raw ch 0 l = 0 ∧ pP raw ch 0 l = 0) ∨ (pS raw ch 0 l = 2 ∧ (ruF (raw ++ ch)).e ≠ 0 ∧ pE raw ch 0 l = (ruF (raw ++ ch)).e ∧ pP raw ch 0 l = (ruF (raw ++ ch)).pl)) ∧ (l = true → pS raw ch 0 l ≠ 0) ∧ (l = false → pS raw ch 0 l ≠ 1) ∧ (l = true → (ruF (raw ++ ch)).e = 0 → pS raw ch 0 l = 1) := by
  have h3 : ¬ ((0 : Nat) ≠ 0 ∨ 512 < raw.size + ch.size) := by omega
  have h2 : ¬ 512 < raw.size + ch.size := by omega
  have e1 : pS raw ch 0 l = stS (ruF (raw ++ ch)).e l := if_neg h3
  have e2 : pE raw ch 0 l = if stS (ruF (raw ++ ch)).e l = 2 then (ruF (raw ++ ch)).e else 0 := by unfold pE; rw [if_neg (by omega), if_neg h2]
  have e3 : pP raw ch 0 l = if stS (ruF (raw ++ ch)).e l = 2 then (ruF (raw ++ ch)).pl else 0 := if_neg h3
  refine ⟨if_neg h3, ?_⟩
  rw [e1, e2, e3]
  by_cases q0 : (ruF (raw ++ ch)).e = 0
  · cases l
    · rw [stS0 (.inl q0) rfl]; simp [q0]
    · rw [stS1 q0 rfl]; simp [q0]
  · by_cases q4 : (ruF (raw ++ ch)).e = 4
    · cases l
      · rw [stS0 (.inr q4) rfl]; simp [q4]
      · rw [stS2 q0 (.inl rfl)]; simp [q4]
    · rw [stS2 q0 (.inr q4)]
      simp [q0]
/-! the law's desk -/
def dk (reg : ByteArray) (cur : Nat) (fed out src : ByteArray) (got : Bool) : Array Value := #[.string reg, .int .i64 (cur : Int), .string fed, .string out, .string src, .bool got]
theorem dkq {h : Heap} {X cur : Nat} {reg fed out src : ByteArray} {got : Bool} {t : TypeId} (b : B h X (dk reg cur fed out src got) t) : cellH h ⟨X, 0, none⟩ = some (.string reg) ∧ cellH h ⟨X, 1, none⟩ = some (.int .i64 (cur : Int)) ∧ cellH h ⟨X, 2, none⟩ = some (.string fed) ∧ cellH h ⟨X, 3, none⟩ = some (.string out) ∧ cellH h ⟨X, 4, none⟩ = some (.string src) ∧ cellH h ⟨X, 5, none⟩ = some (.bool got) ∧ ∀ j, j < 6 → okPut h ⟨X, j, none⟩ = true := ⟨b.cell 0, b.cell 1, b.cell 2, b.cell 3, b.cell 4, b.cell 5, fun j hj => b.ok (by simpa [dk] using hj)⟩
theorem RSt.hand {raw : ByteArray} {r : SR} {out : List Int} {s : TS} {ua ub : HC} {st : Nat} (q : RSt raw r out s ua ub st) (h1 : out ≠ [] ∨ st = 1) (hk : ¬ K0 raw) : ua.n = 265 ∧ ub.n = 8 := by
  have h2 : (ua.n = 265 ∧ ub.n = 8) ∨ K0 raw := by
    rcases h1 with h1 | h1
    · obtain ⟨n, w⟩ := q.w
      rcases w.jw with z | z | z
      · exact .inl z
      · exact .inr z
      · exact absurd z h1
    · rcases q with ⟨z, _⟩ | ⟨_, _, z, _⟩ | ⟨z, _⟩
      · omega
      · exact z
      · omega
  rcases h2 with z | z
  · exact z
  · exact absurd z hk
set_option maxHeartbeats 400000 in
theorem samestep_spec (h : Heap) (a : ByteArray) (b c d : Int) :
    FC Tryz.prog 45 (#[.agg #[.string a, .int .i64 b, .int .i64 c, .int .i64 d], .agg #[.string a, .int .i64 b, .int .i64 c, .int .i64 d]] : Array Value) h fun rv h' => rv = .bool true ∧ Ext (fun _ => False) h h' := by
  refine FC_of [(0, .agg #[.string a, .int .i64 b, .int .i64 c, .int .i64 d]), (1, .agg #[.string a, .int .i64 b, .int .i64 c, .int .i64 d])] Tryz.func45 rfl Tryz.ntmps45 (by simp) rfl (fun R hR => ?_)
  refine V_sr T.mix (by kernel_rfl) (fun K1 hK1 => ?_)
  refine S_boxA rfl ?_
  generalize hh : Array.push h _ = h1
  have b1 : B h1 h.size #[.string a, .int .i64 b, .int .i64 c, .int .i64 d] 72 := by rw [← hh]; exact B.new _ _ _
  have hEh1 : Ext (fun _ => False) h h1 := by rw [← hh]; exact Ext.push _ _ _
  clear hh
  refine S_boxA rfl ?_
  generalize hh : Array.push h1 _ = h2
  have b2 : B h2 h1.size #[.string a, .int .i64 b, .int .i64 c, .int .i64 d] 72 := by rw [← hh]; exact B.new _ _ _
  have hEh2 : Ext (fun _ => False) h1 h2 := by rw [← hh]; exact Ext.push _ _ _
  clear hh
  have x0 : cellH h2 ⟨h.size, 0, none⟩ = some (.string a) := (b1.ext hEh2 (fun f => f)).cell 0
  have x1 : cellH h2 ⟨h.size, 1, none⟩ = some (.int .i64 b) := (b1.ext hEh2 (fun f => f)).cell 1
  have x2 : cellH h2 ⟨h.size, 2, none⟩ = some (.int .i64 c) := (b1.ext hEh2 (fun f => f)).cell 2
  have x3 : cellH h2 ⟨h.size, 3, none⟩ = some (.int .i64 d) := (b1.ext hEh2 (fun f => f)).cell 3
  have y0 : cellH h2 ⟨h1.size, 0, none⟩ = some (.string a) := (b2).cell 0
  have y1 : cellH h2 ⟨h1.size, 1, none⟩ = some (.int .i64 b) := (b2).cell 1
  have y2 : cellH h2 ⟨h1.size, 2, none⟩ = some (.int .i64 c) := (b2).cell 2
  have y3 : cellH h2 ⟨h1.size, 3, none⟩ = some (.int .i64 d) := (b2).cell 3
  refine S_as rfl ?_
  refine S_nil (hK1 _ _ (V_keep [2, 3] (by simp only [proj, lk, reduceIte, Nat.reduceEqDiff]; rfl) ?_)); clear hK1
  refine V_seq (fun K2 hK2 => ?_)
  refine V_sr T.mix (by kernel_rfl) (fun K3 hK3 => ?_)
  first | refine S_fa0 T.f72_0 rfl ?_ | refine S_fa T.f72_0 rfl ?_
  refine S_ldK T.ag9 rfl (fun K' hK' => ?_)
  simp (disch := omega) only [x0, x1, x2, x3, y0, y1, y2, y3, oP_some, Nat.add_zero]
  refine hK' _ ?_; clear hK' K'
  first | refine S_fa0 T.f72_0 rfl ?_ | refine S_fa T.f72_0 rfl ?_
  refine S_ldK T.ag9 rfl (fun K' hK' => ?_)
  simp (disch := omega) only [x0, x1, x2, x3, y0, y1, y2, y3, oP_some, Nat.add_zero]
  refine hK' _ ?_; clear hK' K'
  refine S_bin rfl rfl rfl ?_
  refine S_mv rfl ?_
  refine S_dec (fun g46 => ?_) (fun g46 => ?_)
  · skip
    exact absurd rfl g46
  · skip
    refine S_gt rfl ?_
    first | refine S_fa0 T.f72_1 rfl ?_ | refine S_fa T.f72_1 rfl ?_
    refine S_gt rfl ?_
    refine S_ldK T.ag3 rfl (fun K' hK' => ?_)
    simp (disch := omega) only [x0, x1, x2, x3, y0, y1, y2, y3, oP_some, Nat.add_zero]
    refine hK' _ ?_; clear hK' K'
    refine S_gt rfl ?_
    first | refine S_fa0 T.f72_1 rfl ?_ | refine S_fa T.f72_1 rfl ?_
    refine S_gt rfl ?_
    refine S_ldK T.ag3 rfl (fun K' hK' => ?_)
    simp (disch := omega) only [x0, x1, x2, x3, y0, y1, y2, y3, oP_some, Nat.add_zero]
    refine hK' _ ?_; clear hK' K'
    refine S_gt rfl ?_
    refine S_bin rfl rfl rfl ?_
    refine S_pf rfl rfl ?_
    refine S_nil (hK3 _ _ (V_keep [2, 3, 16] (by simp only [proj, lk, reduceIte, Nat.reduceEqDiff]; rfl) ?_)); clear hK3
    refine V_condp rfl (fun c46 => ?_) (fun c46 => ?_)
    · skip
      exact absurd rfl c46
    · skip
      refine V_skipk [2, 3] (by simp only [proj, lk, reduceIte, Nat.reduceEqDiff]; rfl) ?_
      refine hK2 _ _ ?_; clear hK2
      refine V_sr T.mix (by kernel_rfl) (fun K4 hK4 => ?_)
      first | refine S_fa0 T.f72_2 rfl ?_ | refine S_fa T.f72_2 rfl ?_
      refine S_ldK T.ag58 rfl (fun K' hK' => ?_)
      simp (disch := omega) only [x0, x1, x2, x3, y0, y1, y2, y3, oP_some, Nat.add_zero]
      refine hK' _ ?_; clear hK' K'
      first | refine S_fa0 T.f72_2 rfl ?_ | refine S_fa T.f72_2 rfl ?_
      refine S_ldK T.ag58 rfl (fun K' hK' => ?_)
      simp (disch := omega) only [x0, x1, x2, x3, y0, y1, y2, y3, oP_some, Nat.add_zero]
      refine hK' _ ?_; clear hK' K'
      refine S_bin rfl rfl rfl ?_
      refine S_mv rfl ?_
      refine S_dec (fun g49 => ?_) (fun g49 => ?_)
      · skip
        refine S_gt rfl ?_
        first | refine S_fa0 T.f72_3 rfl ?_ | refine S_fa T.f72_3 rfl ?_
        refine S_gt rfl ?_
        refine S_ldK T.ag3 rfl (fun K' hK' => ?_)
        simp (disch := omega) only [x0, x1, x2, x3, y0, y1, y2, y3, oP_some, Nat.add_zero]
        refine hK' _ ?_; clear hK' K'
        refine S_gt rfl ?_
        first | refine S_fa0 T.f72_3 rfl ?_ | refine S_fa T.f72_3 rfl ?_
        refine S_gt rfl ?_
        refine S_ldK T.ag3 rfl (fun K' hK' => ?_)
        simp (disch := omega) only [x0, x1, x2, x3, y0, y1, y2, y3, oP_some, Nat.add_zero]
        refine hK' _ ?_; clear hK' K'
        refine S_gt rfl ?_
        refine S_bin rfl rfl rfl ?_
        refine S_pt rfl rfl ?_
        refine S_as rfl ?_
        refine S_nil (hK4 _ _ (V_keep [4] (by simp only [proj, lk, reduceIte, Nat.reduceEqDiff]; rfl) ?_)); clear hK4
        refine V_ret ?_
        refine hR _ _ (ret1 rfl rfl ?_)
        exact ⟨by simp, hEh1.trans hEh2⟩
      · skip
        exact absurd rfl g49
set_option maxHeartbeats 400000 in
theorem refused_spec (h : Heap) (a : ByteArray) (b c d e : Int) (ha : a = ⟨#[]⟩) (hb : b = 2) (hc : c = e) (hd : d = 0) :
    FC Tryz.prog 63 (#[.agg #[.string a, .int .i64 b, .int .i64 c, .int .i64 d], .int .i64 e] : Array Value) h fun rv h' => rv = .bool true ∧ Ext (fun _ => False) h h' := by
  refine FC_of [(0, .agg #[.string a, .int .i64 b, .int .i64 c, .int .i64 d]), (1, .int .i64 e)] Tryz.func63 rfl Tryz.ntmps63 (by simp) rfl (fun R hR => ?_)
  refine V_sr T.mix (by kernel_rfl) (fun K1 hK1 => ?_)
  refine S_boxA rfl ?_
  generalize hh : Array.push h _ = h1
  have b1 : B h1 h.size #[.string a, .int .i64 b, .int .i64 c, .int .i64 d] 72 := by rw [← hh]; exact B.new _ _ _
  have hEh1 : Ext (fun _ => False) h h1 := by rw [← hh]; exact Ext.push _ _ _
  clear hh
  have x0 : cellH h1 ⟨h.size, 0, none⟩ = some (.string a) := (b1).cell 0
  have x1 : cellH h1 ⟨h.size, 1, none⟩ = some (.int .i64 b) := (b1).cell 1
  have x2 : cellH h1 ⟨h.size, 2, none⟩ = some (.int .i64 c) := (b1).cell 2
  have x3 : cellH h1 ⟨h.size, 3, none⟩ = some (.int .i64 d) := (b1).cell 3
  refine S_as rfl ?_
  refine S_nil (hK1 _ _ (V_keep [1, 2] (by simp only [proj, lk, reduceIte, Nat.reduceEqDiff]; rfl) ?_)); clear hK1
  refine V_seq (fun K2 hK2 => ?_)
  refine V_sr T.mix (by kernel_rfl) (fun K3 hK3 => ?_)
  first | refine S_fa0 T.f72_0 rfl ?_ | refine S_fa T.f72_0 rfl ?_
  refine S_ldK T.ag9 rfl (fun K' hK' => ?_)
  simp (disch := omega) only [x0, x1, x2, x3, oP_some, Nat.add_zero]
  refine hK' _ ?_; clear hK' K'
  refine S_bin rfl rfl rfl ?_
  refine S_mv rfl ?_
  refine S_dec (fun g54 => ?_) (fun g54 => ?_)
  · skip
    exact absurd ha g54
  · skip
    refine S_gt rfl ?_
    first | refine S_fa0 T.f72_1 rfl ?_ | refine S_fa T.f72_1 rfl ?_
    refine S_gt rfl ?_
    refine S_ldK T.ag3 rfl (fun K' hK' => ?_)
    simp (disch := omega) only [x0, x1, x2, x3, oP_some, Nat.add_zero]
    refine hK' _ ?_; clear hK' K'
    refine S_gt rfl ?_
    refine S_bin rfl rfl rfl ?_
    refine S_pf rfl rfl ?_
    refine S_nil (hK3 _ _ (V_keep [1, 2, 12] (by simp only [proj, lk, reduceIte, Nat.reduceEqDiff]; rfl) ?_)); clear hK3
    refine V_condp rfl (fun c54 => ?_) (fun c54 => ?_)
    · skip
      exact absurd hb c54
    · skip
      refine V_skipk [1, 2] (by simp only [proj, lk, reduceIte, Nat.reduceEqDiff]; rfl) ?_
      refine hK2 _ _ ?_; clear hK2
      refine V_sr T.mix (by kernel_rfl) (fun K4 hK4 => ?_)
      first | refine S_fa0 T.f72_2 rfl ?_ | refine S_fa T.f72_2 rfl ?_
      refine S_ldK T.ag58 rfl (fun K' hK' => ?_)
      simp (disch := omega) only [x0, x1, x2, x3, oP_some, Nat.add_zero]
      refine hK' _ ?_; clear hK' K'
      refine S_mv rfl ?_
      refine S_bin rfl rfl rfl ?_
      refine S_mv rfl ?_
      refine S_dec (fun g57 => ?_) (fun g57 => ?_)
      · skip
        refine S_gt rfl ?_
        first | refine S_fa0 T.f72_3 rfl ?_ | refine S_fa T.f72_3 rfl ?_
        refine S_gt rfl ?_
        refine S_ldK T.ag3 rfl (fun K' hK' => ?_)
        simp (disch := omega) only [x0, x1, x2, x3, oP_some, Nat.add_zero]
        refine hK' _ ?_; clear hK' K'
        refine S_gt rfl ?_
        refine S_bin rfl rfl rfl ?_
        refine S_pt rfl rfl ?_
        refine S_as rfl ?_
        refine S_nil (hK4 _ _ (V_keep [4] (by simp only [proj, lk, reduceIte, Nat.reduceEqDiff]; rfl) ?_)); clear hK4
        refine V_ret ?_
        refine hR _ _ (ret1 rfl rfl ?_)
        exact ⟨by rw [decide_eq_true hd], hEh1⟩
      · skip
        exact absurd hc g57
set_option maxHeartbeats 3200000 in
theorem keeps_spec (h : Heap) (X : Nat) (reg : ByteArray) (cur : Nat) (raw : ByteArray) (out : List Int) (src : ByteArray) (got : Bool) (db : B h X (dk reg cur raw (mkS out) src got) 38) (st : Nat) (ch : ByteArray) (lst : Bool) (hz : raw.size ≤ 512) (hx : ∃ x, nxO raw ch st out = out ++ x) (hol : (nxO raw ch st out).length ≤ 256) (hpl : st = 0 → raw.size + ch.size ≤ 512 → (ruF (raw ++ ch)).e = 0 → (ruF (raw ++ ch)).pl = 0) (hg : got = true → ∃ lv, src.size ≤ 256 ∧ reg = pkF src lv) :
    FC Tryz.prog 46 (#[.pointer (some ⟨X, 0, none⟩), .int .i64 (st : Int), .string ch, .bool lst, .agg #[.string (pO raw ch st out.length), .int .i64 ((pS raw ch st lst : Nat) : Int), .int .i64 ((pE raw ch st lst : Nat) : Int), .int .i64 ((pP raw ch st lst : Nat) : Int)]] : Array Value) h fun rv h' => rv = .bool true ∧ B h' X (dk reg cur (nxR raw ch st) (mkS (nxO raw ch st out)) src got) 38 ∧ Ext (fun z => z = X) h h' := by
  try clear v0 v1 v2 v3 v4 v5 vok
  obtain ⟨v0, v1, v2, v3, v4, v5, vok⟩ := dkq (db)
  have hXl := db.lt
  refine FC_of [(0, .pointer (some ⟨X, 0, none⟩)), (1, .int .i64 (st : Int)), (2, .string ch), (3, .bool lst), (4, .agg #[.string (pO raw ch st out.length), .int .i64 ((pS raw ch st lst : Nat) : Int), .int .i64 ((pE raw ch st lst : Nat) : Int), .int .i64 ((pP raw ch st lst : Nat) : Int)])] Tryz.func46 rfl Tryz.ntmps46 (by simp) rfl (fun R hR => ?_)
  refine V_sr T.mix (by kernel_rfl) (fun K1 hK1 => ?_)
  refine S_boxA rfl ?_
  generalize hh : Array.push h _ = h1
  have bq : B h1 h.size #[.string (pO raw ch st out.length), .int .i64 ((pS raw ch st lst : Nat) : Int), .int .i64 ((pE raw ch st lst : Nat) : Int), .int .i64 ((pP raw ch st lst : Nat) : Int)] 72 := by rw [← hh]; exact B.new _ _ _
  have hEh1 : Ext (fun _ => False) h h1 := by rw [← hh]; exact Ext.push _ _ _
  clear hh
  try clear x0 x1 x2 x3
  have x0 : cellH h1 ⟨h.size, 0, none⟩ = some (.string (pO raw ch st out.length)) := (bq).cell 0
  have x1 : cellH h1 ⟨h.size, 1, none⟩ = some (.int .i64 ((pS raw ch st lst : Nat) : Int)) := (bq).cell 1
  have x2 : cellH h1 ⟨h.size, 2, none⟩ = some (.int .i64 ((pE raw ch st lst : Nat) : Int)) := (bq).cell 2
  have x3 : cellH h1 ⟨h.size, 3, none⟩ = some (.int .i64 ((pP raw ch st lst : Nat) : Int)) := (bq).cell 3
  have d1 := db.ext hEh1 (fun f => f)
  have hX1 : Ext (fun z => z = X) h h1 := hEh1.mono (fun _ f => f.elim)
  try clear v0 v1 v2 v3 v4 v5 vok
  obtain ⟨v0, v1, v2, v3, v4, v5, vok⟩ := dkq (d1)
  refine S_as rfl ?_
  refine S_nil (hK1 _ _ (V_keep [0, 1, 2, 3, 9] (by simp only [proj, lk, reduceIte, Nat.reduceEqDiff]; rfl) ?_)); clear hK1
  refine V_seq (fun K2 hK2 => ?_)
  refine V_sr T.mix (by kernel_rfl) (fun K3 hK3 => ?_)
  refine S_mv rfl ?_
  refine S_bin rfl rfl rfl ?_
  refine S_nil (hK3 _ _ (V_keep [0, 2, 3, 9, 15] (by simp only [proj, lk, reduceIte, Nat.reduceEqDiff]; rfl) ?_)); clear hK3
  refine V_condp rfl (fun c64 => ?_) (fun c64 => ?_)
  · skip
    refine V_sr T.mix (by kernel_rfl) (fun K4 hK4 => ?_)
    refine S_ldnK T.ag72 rfl (fun K' hK' => ?_)
    simp (disch := omega) only [v0, v1, v2, v3, v4, v5, x0, x1, x2, x3, oPs_cons, oPs_nil, oP_some, Nat.reduceAdd, Nat.add_zero]
    refine hK' _ ?_; clear hK' K'
    refine S_call T.hb63 rfl ?_
    obtain ⟨z1, z2, z3, z4⟩ := p_st (raw := raw) (ch := ch) (n := out.length) (l := lst) (show st ≠ 0 by omega)
    refine FC.mono (refused_spec h1 _ _ _ _ _ z1 (by rw [z2]; rfl) (by rw [z3]; rfl) (by rw [z4]; rfl)) ?_
    rintro v' h2 ⟨rfl, hE2⟩
    refine S_as rfl ?_
    refine S_nil (hK4 _ _ (V_keep [10] (by simp only [proj, lk, reduceIte, Nat.reduceEqDiff]; rfl) ?_)); clear hK4
    refine V_ret ?_
    refine hR _ _ (ret1 rfl rfl ?_)
    exact ⟨rfl, by unfold nxR nxO; rw [if_neg (by omega), if_neg (by omega)]; exact d1.ext hE2 (fun f => f), hX1.step hE2 (fun z hz f => f.elim)⟩
  · skip
    have hst : st = 0 := by omega
    subst hst
    refine V_skipk [0, 2, 3, 9] (by simp only [proj, lk, reduceIte, Nat.reduceEqDiff]; rfl) ?_
    refine hK2 _ _ ?_; clear hK2
    refine V_seq (fun K5 hK5 => ?_)
    refine V_sr T.mix (by kernel_rfl) (fun K6 hK6 => ?_)
    refine S_mv rfl ?_
    refine S_lens T.kd9 rfl ?_
    refine S_mv rfl ?_
    refine S_nc rfl ?_
    first | refine S_fa0 T.f38_2 rfl ?_ | refine S_fa T.f38_2 rfl ?_
    refine S_ldK T.ag9 rfl (fun K' hK' => ?_)
    simp (disch := omega) only [v0, v1, v2, v3, v4, v5, x0, x1, x2, x3, oP_some, Nat.add_zero]
    refine hK' _ ?_; clear hK' K'
    refine S_lens T.kd9 rfl ?_
    refine S_subN (512 - raw.size) rfl rfl (by omega) (by omega) ?_
    refine S_bin rfl rfl rfl ?_
    refine S_nil (hK6 _ _ (V_keep [0, 2, 3, 9, 26] (by simp only [proj, lk, reduceIte, Nat.reduceEqDiff]; rfl) ?_)); clear hK6
    refine V_condp rfl (fun c67 => ?_) (fun c67 => ?_)
    · skip
      refine V_sr T.mix (by kernel_rfl) (fun K7 hK7 => ?_)
      refine S_ldnK T.ag72 rfl (fun K' hK' => ?_)
      simp (disch := omega) only [v0, v1, v2, v3, v4, v5, x0, x1, x2, x3, oPs_cons, oPs_nil, oP_some, Nat.reduceAdd, Nat.add_zero]
      refine hK' _ ?_; clear hK' K'
      refine S_call T.hb63 rfl ?_
      obtain ⟨z1, z2, z3, z4⟩ := p_lg (raw := raw) (ch := ch) (n := out.length) (l := lst) (by omega)
      refine FC.mono (refused_spec h1 _ _ _ _ _ z1 (by rw [z2]; rfl) (by rw [z3]; rfl) (by rw [z4]; rfl)) ?_
      rintro v' h2 ⟨rfl, hE2⟩
      refine S_as rfl ?_
      refine S_nil (hK7 _ _ (V_keep [10] (by simp only [proj, lk, reduceIte, Nat.reduceEqDiff]; rfl) ?_)); clear hK7
      refine V_ret ?_
      refine hR _ _ (ret1 rfl rfl ?_)
      exact ⟨rfl, by unfold nxR nxO; rw [if_neg (by omega), if_neg (by omega)]; exact d1.ext hE2 (fun f => f), hX1.step hE2 (fun z hz f => f.elim)⟩
    · skip
      have hfit : raw.size + ch.size ≤ 512 := by omega
      have hkx := (p_go (raw := raw) (ch := ch) (n := out.length) (l := lst) hfit).2
      obtain ⟨hk3, hlt, hlf, hl1⟩ := hkx
      have hnO : nxO raw ch 0 out = (ruF (raw ++ ch)).out := by unfold nxO; rw [if_pos ⟨rfl, hfit⟩]
      have hnR : nxR raw ch 0 = raw ++ ch := by unfold nxR; rw [if_pos ⟨rfl, hfit⟩]
      have hcat : mkS out ++ pO raw ch 0 out.length = mkS (ruF (raw ++ ch)).out := by
        obtain ⟨x, hx⟩ := hx
        rw [hnO] at hx
        rw [(p_go (raw := raw) (ch := ch) (n := out.length) (l := lst) hfit).1, hx, List.drop_left, mkS_app]
      have hsz1 := mkS_size out
      have hsz2 : (pO raw ch 0 out.length).size ≤ 256 := by rw [(p_go (raw := raw) (ch := ch) (n := out.length) (l := lst) hfit).1, mkS_size, List.length_drop, ← hnO]; omega
      have hsz3 : out.length ≤ 256 := by obtain ⟨x, hx⟩ := hx; rw [hx, List.length_append] at hol; omega
      refine V_skipk [0, 2, 3, 9] (by simp only [proj, lk, reduceIte, Nat.reduceEqDiff]; rfl) ?_
      refine hK5 _ _ ?_; clear hK5
      refine V_sr T.mix (by kernel_rfl) (fun K8 hK8 => ?_)
      refine S_mv rfl ?_
      refine S_mv rfl ?_
      refine S_nc rfl ?_
      first | refine S_fa0 T.f38_2 rfl ?_ | refine S_fa T.f38_2 rfl ?_
      refine S_ldK T.ag9 rfl (fun K' hK' => ?_)
      simp (disch := omega) only [v0, v1, v2, v3, v4, v5, x0, x1, x2, x3, oP_some, Nat.add_zero]
      refine hK' _ ?_; clear hK' K'
      refine S_mv rfl ?_
      refine S_bin rfl rfl (strV_add (by omega)) ?_
      refine S_nc rfl ?_
      first | refine S_fa0 T.f38_2 rfl ?_ | refine S_fa T.f38_2 rfl ?_
      refine S_st T.sz9 rfl rfl rfl rfl (by simp (disch := omega) only [vok]) ?_
      generalize hh : putH _ _ _ = h2
      have d2 : B h2 X (dk reg cur (raw ++ ch) (mkS out) src got) 38 := by rw [← hh]; exact (d1.put 2 _).cong (by simp [dk])
      have hEh2 : Ext (fun z => z = X) h1 h2 := by rw [← hh]; exact Ext.put _ _ rfl
      clear hh
      try clear v0 v1 v2 v3 v4 v5 vok
      obtain ⟨v0, v1, v2, v3, v4, v5, vok⟩ := dkq (d2)
      have bq2 := bq.ext hEh2 (fun w => by omega)
      try clear x0 x1 x2 x3
      have x0 : cellH h2 ⟨h.size, 0, none⟩ = some (.string (pO raw ch 0 out.length)) := (bq2).cell 0
      have x1 : cellH h2 ⟨h.size, 1, none⟩ = some (.int .i64 ((pS raw ch 0 lst : Nat) : Int)) := (bq2).cell 1
      have x2 : cellH h2 ⟨h.size, 2, none⟩ = some (.int .i64 ((pE raw ch 0 lst : Nat) : Int)) := (bq2).cell 2
      have x3 : cellH h2 ⟨h.size, 3, none⟩ = some (.int .i64 ((pP raw ch 0 lst : Nat) : Int)) := (bq2).cell 3
      refine S_nil (hK8 _ _ (V_keep [0, 3, 9] (by simp only [proj, lk, reduceIte, Nat.reduceEqDiff]; rfl) ?_)); clear hK8
      refine V_sr T.mix (by kernel_rfl) (fun K9 hK9 => ?_)
      refine S_mv rfl ?_
      refine S_mv rfl ?_
      refine S_nc rfl ?_
      first | refine S_fa0 T.f38_3 rfl ?_ | refine S_fa T.f38_3 rfl ?_
      refine S_ldK T.ag9 rfl (fun K' hK' => ?_)
      simp (disch := omega) only [v0, v1, v2, v3, v4, v5, x0, x1, x2, x3, oP_some, Nat.add_zero]
      refine hK' _ ?_; clear hK' K'
      first | refine S_fa0 T.f72_0 rfl ?_ | refine S_fa T.f72_0 rfl ?_
      refine S_ldK T.ag9 rfl (fun K' hK' => ?_)
      simp (disch := omega) only [v0, v1, v2, v3, v4, v5, x0, x1, x2, x3, oP_some, Nat.add_zero]
      refine hK' _ ?_; clear hK' K'
      refine S_bin rfl rfl (strV_add (by omega)) ?_
      refine S_nc rfl ?_
      first | refine S_fa0 T.f38_3 rfl ?_ | refine S_fa T.f38_3 rfl ?_
      refine S_st T.sz9 rfl rfl rfl rfl (by simp (disch := omega) only [vok]) ?_
      rw [hcat]
      generalize hh : putH _ _ _ = h3
      have d3 : B h3 X (dk reg cur (raw ++ ch) (mkS (ruF (raw ++ ch)).out) src got) 38 := by rw [← hh]; exact (d2.put 3 _).cong (by simp [dk])
      have hEh3 : Ext (fun z => z = X) h2 h3 := by rw [← hh]; exact Ext.put _ _ rfl
      clear hh
      try clear v0 v1 v2 v3 v4 v5 vok
      obtain ⟨v0, v1, v2, v3, v4, v5, vok⟩ := dkq (d3)
      have bq3 := bq2.ext hEh3 (fun w => by omega)
      try clear x0 x1 x2 x3
      have x0 : cellH h3 ⟨h.size, 0, none⟩ = some (.string (pO raw ch 0 out.length)) := (bq3).cell 0
      have x1 : cellH h3 ⟨h.size, 1, none⟩ = some (.int .i64 ((pS raw ch 0 lst : Nat) : Int)) := (bq3).cell 1
      have x2 : cellH h3 ⟨h.size, 2, none⟩ = some (.int .i64 ((pE raw ch 0 lst : Nat) : Int)) := (bq3).cell 2
      have x3 : cellH h3 ⟨h.size, 3, none⟩ = some (.int .i64 ((pP raw ch 0 lst : Nat) : Int)) := (bq3).cell 3
      refine S_nil (hK9 _ _ (V_keep [0, 3, 9] (by simp only [proj, lk, reduceIte, Nat.reduceEqDiff]; rfl) ?_)); clear hK9
      refine V_sr T.mix (by kernel_rfl) (fun K10 hK10 => ?_)
      refine S_mv rfl ?_
      refine S_nc rfl ?_
      first | refine S_fa0 T.f38_2 rfl ?_ | refine S_fa T.f38_2 rfl ?_
      refine S_ldK T.ag9 rfl (fun K' hK' => ?_)
      simp (disch := omega) only [v0, v1, v2, v3, v4, v5, x0, x1, x2, x3, oP_some, Nat.add_zero]
      refine hK' _ ?_; clear hK' K'
      refine S_call T.hb64 rfl ?_
      refine FC.mono (srun_spec h3 (raw ++ ch)) ?_
      rintro v' h4 ⟨rfl, hE4⟩
      have d4 := d3.ext hE4 (fun f => f)
      have bq4 := bq3.ext hE4 (fun f => f)
      have hX4 : Ext (fun z => z = X) h h4 := ((hX1.trans hEh2).trans hEh3).step hE4 (fun z hz f => f.elim)
      try clear x0 x1 x2 x3
      have x0 : cellH h4 ⟨h.size, 0, none⟩ = some (.string (pO raw ch 0 out.length)) := (bq4).cell 0
      have x1 : cellH h4 ⟨h.size, 1, none⟩ = some (.int .i64 ((pS raw ch 0 lst : Nat) : Int)) := (bq4).cell 1
      have x2 : cellH h4 ⟨h.size, 2, none⟩ = some (.int .i64 ((pE raw ch 0 lst : Nat) : Int)) := (bq4).cell 2
      have x3 : cellH h4 ⟨h.size, 3, none⟩ = some (.int .i64 ((pP raw ch 0 lst : Nat) : Int)) := (bq4).cell 3
      try clear v0 v1 v2 v3 v4 v5 vok
      obtain ⟨v0, v1, v2, v3, v4, v5, vok⟩ := dkq (d4)
      refine S_mv rfl ?_
      refine S_ex rfl rfl ?_
      refine S_ex rfl rfl ?_
      refine S_ex rfl rfl ?_
      refine S_as rfl ?_
      refine S_as rfl ?_
      refine S_as rfl ?_
      refine S_nil (hK10 _ _ (V_keep [0, 3, 9, 11, 12, 13] (by simp only [proj, lk, reduceIte, Nat.reduceEqDiff]; rfl) ?_)); clear hK10
      refine V_seq (fun K11 hK11 => ?_)
      refine V_sr T.mix (by kernel_rfl) (fun K12 hK12 => ?_)
      refine S_mv rfl ?_
      refine S_nc rfl ?_
      first | refine S_fa0 T.f38_3 rfl ?_ | refine S_fa T.f38_3 rfl ?_
      refine S_ldK T.ag9 rfl (fun K' hK' => ?_)
      simp (disch := omega) only [v0, v1, v2, v3, v4, v5, x0, x1, x2, x3, oP_some, Nat.add_zero]
      refine hK' _ ?_; clear hK' K'
      refine S_mv rfl ?_
      refine S_bin rfl rfl rfl ?_
      refine S_nil (hK12 _ _ (V_keep [0, 3, 9, 12, 13, 62] (by simp only [proj, lk, reduceIte, Nat.reduceEqDiff]; rfl) ?_)); clear hK12
      refine V_condp rfl (fun c73 => ?_) (fun c73 => ?_)
      · skip
        exact absurd rfl c73
      · skip
        refine V_skipk [0, 3, 9, 12, 13] (by simp only [proj, lk, reduceIte, Nat.reduceEqDiff]; rfl) ?_
        refine hK11 _ _ ?_; clear hK11
        refine V_seqJ (fun l h' => l = [(3, .bool lst), (9, .pointer (some ⟨h.size, 0, none⟩)), (12, .int .i64 (((ruF (raw ++ ch)).e : Nat) : Int)), (13, .int .i64 (((ruF (raw ++ ch)).pl : Nat) : Int))] ∧ h4 = h') ?_ ?_
        · skip
          refine V_sr T.mix (by kernel_rfl) (fun K14 hK14 => ?_)
          refine S_mv rfl ?_
          refine S_nc rfl ?_
          first | refine S_fa0 T.f38_5 rfl ?_ | refine S_fa T.f38_5 rfl ?_
          refine S_ldK T.ag4 rfl (fun K' hK' => ?_)
          simp (disch := omega) only [v0, v1, v2, v3, v4, v5, x0, x1, x2, x3, oP_some, Nat.add_zero]
          refine hK' _ ?_; clear hK' K'
          refine S_mv rfl ?_
          refine S_decb (fun g76 => ?_) (fun g76 => ?_)
          · skip
            refine S_gt rfl ?_
            refine S_mv rfl ?_
            refine S_pt rfl rfl ?_
            refine S_mv rfl ?_
            refine S_decb (fun g76a => ?_) (fun g76a => ?_)
            · skip
              refine S_gt rfl ?_
              refine S_mv rfl ?_
              refine S_gt rfl ?_
              refine S_nc rfl ?_
              refine S_gt rfl ?_
              first | refine S_fa0 T.f38_2 rfl ?_ | refine S_fa T.f38_2 rfl ?_
              refine S_gt rfl ?_
              refine S_ldK T.ag9 rfl (fun K' hK' => ?_)
              simp (disch := omega) only [v0, v1, v2, v3, v4, v5, x0, x1, x2, x3, oP_some, Nat.add_zero]
              refine hK' _ ?_; clear hK' K'
              refine S_gt rfl ?_
              refine S_mv rfl ?_
              refine S_gt rfl ?_
              refine S_nc rfl ?_
              refine S_gt rfl ?_
              first | refine S_fa0 T.f38_0 rfl ?_ | refine S_fa T.f38_0 rfl ?_
              refine S_gt rfl ?_
              refine S_ldK T.ag9 rfl (fun K' hK' => ?_)
              simp (disch := omega) only [v0, v1, v2, v3, v4, v5, x0, x1, x2, x3, oP_some, Nat.add_zero]
              refine hK' _ ?_; clear hK' K'
              refine S_gt rfl ?_
              refine S_bin rfl rfl rfl ?_
              refine S_pt rfl rfl ?_
              refine S_nil (hK14 _ _ (V_keep [0, 3, 9, 12, 13, 80] (by simp only [proj, lk, reduceIte, Nat.reduceEqDiff]; rfl) ?_)); clear hK14
              refine V_condp rfl (fun c76 => ?_) (fun c76 => ?_)
              · skip
                have hru : (ruF (raw ++ ch)).e = 0 ∧ mkS (ruF (raw ++ ch)).out = src := by
                  obtain ⟨lv, hs, hr⟩ := hg (by assumption)
                  obtain ⟨s9, h9⟩ := pk_run hs lv
                  have hc9 : raw ++ ch = pkF src lv := by rw [← hr]; assumption
                  rw [hc9, h9]
                  exact ⟨rfl, Lz.mkS_byt src⟩
                refine V_sr T.mix (by kernel_rfl) (fun K15 hK15 => ?_)
                first | refine S_fa0 T.f72_1 rfl ?_ | refine S_fa T.f72_1 rfl ?_
                refine S_ldK T.ag3 rfl (fun K' hK' => ?_)
                simp (disch := omega) only [v0, v1, v2, v3, v4, v5, x0, x1, x2, x3, oP_some, Nat.add_zero]
                refine hK' _ ?_; clear hK' K'
                refine S_bin rfl rfl rfl ?_
                refine S_mv rfl ?_
                refine S_dec (fun g77 => ?_) (fun g77 => ?_)
                · skip
                  exfalso; have h8 := hl1 (by assumption) hru.1; omega
                · skip
                  refine S_gt rfl ?_
                  refine S_mv rfl ?_
                  refine S_gt rfl ?_
                  refine S_nc rfl ?_
                  refine S_gt rfl ?_
                  first | refine S_fa0 T.f38_3 rfl ?_ | refine S_fa T.f38_3 rfl ?_
                  refine S_gt rfl ?_
                  refine S_ldK T.ag9 rfl (fun K' hK' => ?_)
                  simp (disch := omega) only [v0, v1, v2, v3, v4, v5, x0, x1, x2, x3, oP_some, Nat.add_zero]
                  refine hK' _ ?_; clear hK' K'
                  refine S_gt rfl ?_
                  refine S_mv rfl ?_
                  refine S_gt rfl ?_
                  refine S_nc rfl ?_
                  refine S_gt rfl ?_
                  first | refine S_fa0 T.f38_4 rfl ?_ | refine S_fa T.f38_4 rfl ?_
                  refine S_gt rfl ?_
                  refine S_ldK T.ag9 rfl (fun K' hK' => ?_)
                  simp (disch := omega) only [v0, v1, v2, v3, v4, v5, x0, x1, x2, x3, oP_some, Nat.add_zero]
                  refine hK' _ ?_; clear hK' K'
                  refine S_gt rfl ?_
                  refine S_bin rfl rfl rfl ?_
                  refine S_pf rfl rfl ?_
                  refine S_nil (hK15 _ _ (V_keep [3, 9, 12, 13, 94] (by simp only [proj, lk, reduceIte, Nat.reduceEqDiff]; rfl) ?_)); clear hK15
                  refine V_condp rfl (fun c77 => ?_) (fun c77 => ?_)
                  · skip
                    exact absurd hru.2 c77
                  · skip
                    refine V_skipk [3, 9, 12, 13] (by simp only [proj, lk, reduceIte, Nat.reduceEqDiff]; rfl) ?_
                    exact ⟨rfl, rfl⟩
              · skip
                refine V_skipk [3, 9, 12, 13] (by simp only [proj, lk, reduceIte, Nat.reduceEqDiff]; rfl) ?_
                exact ⟨rfl, rfl⟩
            · skip
              refine S_gf rfl ?_
              refine S_gf rfl ?_
              refine S_gf rfl ?_
              refine S_gf rfl ?_
              refine S_gf rfl ?_
              refine S_gf rfl ?_
              refine S_gf rfl ?_
              refine S_gf rfl ?_
              refine S_gf rfl ?_
              refine S_pf rfl rfl ?_
              refine S_nil (hK14 _ _ (V_keep [0, 3, 9, 12, 13, 80] (by simp only [proj, lk, reduceIte, Nat.reduceEqDiff]; rfl) ?_)); clear hK14
              refine V_condf rfl ?_
              refine V_skipk [3, 9, 12, 13] (by simp only [proj, lk, reduceIte, Nat.reduceEqDiff]; rfl) ?_
              exact ⟨rfl, rfl⟩
          · skip
            refine S_gf rfl ?_
            refine S_pf rfl rfl ?_
            refine S_mv rfl ?_
            refine S_gf rfl ?_
            refine S_gf rfl ?_
            refine S_gf rfl ?_
            refine S_gf rfl ?_
            refine S_gf rfl ?_
            refine S_gf rfl ?_
            refine S_gf rfl ?_
            refine S_gf rfl ?_
            refine S_gf rfl ?_
            refine S_pf rfl rfl ?_
            refine S_nil (hK14 _ _ (V_keep [0, 3, 9, 12, 13, 80] (by simp only [proj, lk, reduceIte, Nat.reduceEqDiff]; rfl) ?_)); clear hK14
            refine V_condf rfl ?_
            refine V_skipk [3, 9, 12, 13] (by simp only [proj, lk, reduceIte, Nat.reduceEqDiff]; rfl) ?_
            exact ⟨rfl, rfl⟩
        rintro l h' ⟨rfl, rfl⟩
        refine V_seq (fun K16 hK16 => ?_)
        refine V_sr T.mix (by kernel_rfl) (fun K17 hK17 => ?_)
        first | refine S_fa0 T.f72_1 rfl ?_ | refine S_fa T.f72_1 rfl ?_
        refine S_ldK T.ag3 rfl (fun K' hK' => ?_)
        simp (disch := omega) only [v0, v1, v2, v3, v4, v5, x0, x1, x2, x3, oP_some, Nat.add_zero]
        refine hK' _ ?_; clear hK' K'
        refine S_bin rfl rfl rfl ?_
        refine S_nil (hK17 _ _ (V_keep [3, 9, 12, 13, 97] (by simp only [proj, lk, reduceIte, Nat.reduceEqDiff]; rfl) ?_)); clear hK17
        refine V_condp rfl (fun c81 => ?_) (fun c81 => ?_)
        · skip
          refine V_seq (fun K18 hK18 => ?_)
          refine V_sr T.mix (by kernel_rfl) (fun K19 hK19 => ?_)
          refine S_mv rfl ?_
          refine S_mv rfl ?_
          refine S_decb (fun g82 => ?_) (fun g82 => ?_)
          · skip
            exfalso; have h8 := hlt g82; omega
          · skip
            refine S_gt rfl ?_
            first | refine S_fa0 T.f72_2 rfl ?_ | refine S_fa T.f72_2 rfl ?_
            refine S_gt rfl ?_
            refine S_ldK T.ag58 rfl (fun K' hK' => ?_)
            simp (disch := omega) only [v0, v1, v2, v3, v4, v5, x0, x1, x2, x3, oP_some, Nat.add_zero]
            refine hK' _ ?_; clear hK' K'
            refine S_gt rfl ?_
            refine S_bin rfl rfl rfl ?_
            refine S_pf rfl rfl ?_
            refine S_mv rfl ?_
            refine S_dec (fun g82a => ?_) (fun g82a => ?_)
            · skip
              exfalso; omega
            · skip
              refine S_gt rfl ?_
              first | refine S_fa0 T.f72_3 rfl ?_ | refine S_fa T.f72_3 rfl ?_
              refine S_gt rfl ?_
              refine S_ldK T.ag3 rfl (fun K' hK' => ?_)
              simp (disch := omega) only [v0, v1, v2, v3, v4, v5, x0, x1, x2, x3, oP_some, Nat.add_zero]
              refine hK' _ ?_; clear hK' K'
              refine S_gt rfl ?_
              refine S_bin rfl rfl rfl ?_
              refine S_pf rfl rfl ?_
              refine S_nil (hK19 _ _ (V_keep [12, 108] (by simp only [proj, lk, reduceIte, Nat.reduceEqDiff]; rfl) ?_)); clear hK19
              refine V_condp rfl (fun c82 => ?_) (fun c82 => ?_)
              · skip
                exfalso; omega
              · skip
                refine V_skipk [12] (by simp only [proj, lk, reduceIte, Nat.reduceEqDiff]; rfl) ?_
                refine hK18 _ _ ?_; clear hK18
                refine V_sr T.mix (by kernel_rfl) (fun K20 hK20 => ?_)
                refine S_mv rfl ?_
                refine S_bin rfl rfl rfl ?_
                refine S_mv rfl ?_
                refine S_dec (fun g85 => ?_) (fun g85 => ?_)
                · skip
                  refine S_gf rfl ?_
                  refine S_gf rfl ?_
                  refine S_pt rfl rfl ?_
                  refine S_as rfl ?_
                  refine S_nil (hK20 _ _ (V_keep [10] (by simp only [proj, lk, reduceIte, Nat.reduceEqDiff]; rfl) ?_)); clear hK20
                  refine V_ret ?_
                  refine hR _ _ (ret1 rfl rfl ?_)
                  rw [hnO, hnR]
                  first
                    | (exfalso; omega)
                    | (refine ⟨by rw [decide_eq_true (by omega)], d4, hX4⟩)
                    | (exact ⟨rfl, d4, hX4⟩)
                    | (exfalso; have h8 := hlf (by assumption); omega)
                    | (exfalso; have h8 := hlf (by cases lst; (rfl); (simp at *)); omega)
                · skip
                  refine S_gt rfl ?_
                  refine S_mv rfl ?_
                  refine S_gt rfl ?_
                  refine S_bin rfl rfl rfl ?_
                  refine S_pf rfl rfl ?_
                  refine S_as rfl ?_
                  refine S_nil (hK20 _ _ (V_keep [10] (by simp only [proj, lk, reduceIte, Nat.reduceEqDiff]; rfl) ?_)); clear hK20
                  refine V_ret ?_
                  refine hR _ _ (ret1 rfl rfl ?_)
                  rw [hnO, hnR]
                  first
                    | (exfalso; omega)
                    | (refine ⟨by rw [decide_eq_true (by omega)], d4, hX4⟩)
                    | (exact ⟨rfl, d4, hX4⟩)
                    | (exfalso; have h8 := hlf (by assumption); omega)
                    | (exfalso; have h8 := hlf (by cases lst; (rfl); (simp at *)); omega)
        · skip
          refine V_skipk [3, 9, 12, 13] (by simp only [proj, lk, reduceIte, Nat.reduceEqDiff]; rfl) ?_
          refine hK16 _ _ ?_; clear hK16
          refine V_seq (fun K21 hK21 => ?_)
          refine V_sr T.mix (by kernel_rfl) (fun K22 hK22 => ?_)
          first | refine S_fa0 T.f72_2 rfl ?_ | refine S_fa T.f72_2 rfl ?_
          refine S_ldK T.ag58 rfl (fun K' hK' => ?_)
          simp (disch := omega) only [v0, v1, v2, v3, v4, v5, x0, x1, x2, x3, oP_some, Nat.add_zero]
          refine hK' _ ?_; clear hK' K'
          refine S_mv rfl ?_
          refine S_bin rfl rfl rfl ?_
          refine S_mv rfl ?_
          refine S_dec (fun g87 => ?_) (fun g87 => ?_)
          · skip
            exfalso; omega
          · skip
            refine S_gt rfl ?_
            first | refine S_fa0 T.f72_3 rfl ?_ | refine S_fa T.f72_3 rfl ?_
            refine S_gt rfl ?_
            refine S_ldK T.ag3 rfl (fun K' hK' => ?_)
            simp (disch := omega) only [v0, v1, v2, v3, v4, v5, x0, x1, x2, x3, oP_some, Nat.add_zero]
            refine hK' _ ?_; clear hK' K'
            refine S_gt rfl ?_
            refine S_mv rfl ?_
            refine S_gt rfl ?_
            refine S_bin rfl rfl rfl ?_
            refine S_pf rfl rfl ?_
            refine S_nil (hK22 _ _ (V_keep [3, 9, 12, 124] (by simp only [proj, lk, reduceIte, Nat.reduceEqDiff]; rfl) ?_)); clear hK22
            refine V_condp rfl (fun c87 => ?_) (fun c87 => ?_)
            · skip
              exfalso; have h8 := hpl rfl hfit; omega
            · skip
              refine V_skipk [3, 9, 12] (by simp only [proj, lk, reduceIte, Nat.reduceEqDiff]; rfl) ?_
              refine hK21 _ _ ?_; clear hK21
              refine V_seq (fun K23 hK23 => ?_)
              refine V_sr T.mix (by kernel_rfl) (fun K24 hK24 => ?_)
              first | refine S_fa0 T.f72_1 rfl ?_ | refine S_fa T.f72_1 rfl ?_
              refine S_ldK T.ag3 rfl (fun K' hK' => ?_)
              simp (disch := omega) only [v0, v1, v2, v3, v4, v5, x0, x1, x2, x3, oP_some, Nat.add_zero]
              refine hK' _ ?_; clear hK' K'
              refine S_bin rfl rfl rfl ?_
              refine S_nil (hK24 _ _ (V_keep [3, 9, 12, 127] (by simp only [proj, lk, reduceIte, Nat.reduceEqDiff]; rfl) ?_)); clear hK24
              refine V_condp rfl (fun c90 => ?_) (fun c90 => ?_)
              · skip
                refine V_sr T.mix (by kernel_rfl) (fun K25 hK25 => ?_)
                refine S_mv rfl ?_
                refine S_mv rfl ?_
                refine S_decb (fun g91 => ?_) (fun g91 => ?_)
                · skip
                  refine S_gt rfl ?_
                  refine S_mv rfl ?_
                  refine S_gt rfl ?_
                  refine S_bin rfl rfl rfl ?_
                  refine S_pt rfl rfl ?_
                  refine S_as rfl ?_
                  refine S_nil (hK25 _ _ (V_keep [10] (by simp only [proj, lk, reduceIte, Nat.reduceEqDiff]; rfl) ?_)); clear hK25
                  refine V_ret ?_
                  refine hR _ _ (ret1 rfl rfl ?_)
                  rw [hnO, hnR]
                  first
                    | (exfalso; omega)
                    | (refine ⟨by rw [decide_eq_true (by omega)], d4, hX4⟩)
                    | (exact ⟨rfl, d4, hX4⟩)
                    | (exfalso; have h8 := hlf (by assumption); omega)
                    | (exfalso; have h8 := hlf (by cases lst; (rfl); (simp at *)); omega)
                · skip
                  refine S_gf rfl ?_
                  refine S_gf rfl ?_
                  refine S_pf rfl rfl ?_
                  refine S_as rfl ?_
                  refine S_nil (hK25 _ _ (V_keep [10] (by simp only [proj, lk, reduceIte, Nat.reduceEqDiff]; rfl) ?_)); clear hK25
                  refine V_ret ?_
                  refine hR _ _ (ret1 rfl rfl ?_)
                  rw [hnO, hnR]
                  first
                    | (exfalso; omega)
                    | (refine ⟨by rw [decide_eq_true (by omega)], d4, hX4⟩)
                    | (exact ⟨rfl, d4, hX4⟩)
                    | (exfalso; have h8 := hlf (by assumption); omega)
                    | (exfalso; have h8 := hlf (by cases lst; (rfl); (simp at *)); omega)
              · skip
                refine V_skipk [9, 12] (by simp only [proj, lk, reduceIte, Nat.reduceEqDiff]; rfl) ?_
                refine hK23 _ _ ?_; clear hK23
                refine V_sr T.mix (by kernel_rfl) (fun K26 hK26 => ?_)
                first | refine S_fa0 T.f72_1 rfl ?_ | refine S_fa T.f72_1 rfl ?_
                refine S_ldK T.ag3 rfl (fun K' hK' => ?_)
                simp (disch := omega) only [v0, v1, v2, v3, v4, v5, x0, x1, x2, x3, oP_some, Nat.add_zero]
                refine hK' _ ?_; clear hK' K'
                refine S_bin rfl rfl rfl ?_
                refine S_mv rfl ?_
                refine S_dec (fun g93 => ?_) (fun g93 => ?_)
                · skip
                  refine S_gt rfl ?_
                  refine S_mv rfl ?_
                  refine S_gt rfl ?_
                  refine S_bin rfl rfl rfl ?_
                  refine S_pt rfl rfl ?_
                  refine S_as rfl ?_
                  refine S_nil (hK26 _ _ (V_keep [10] (by simp only [proj, lk, reduceIte, Nat.reduceEqDiff]; rfl) ?_)); clear hK26
                  refine V_ret ?_
                  refine hR _ _ (ret1 rfl rfl ?_)
                  rw [hnO, hnR]
                  first
                    | (exfalso; omega)
                    | (refine ⟨by rw [decide_eq_true (by omega)], d4, hX4⟩)
                    | (exact ⟨rfl, d4, hX4⟩)
                    | (exfalso; have h8 := hlf (by assumption); omega)
                    | (exfalso; have h8 := hlf (by cases lst; (rfl); (simp at *)); omega)
                · skip
                  refine S_gf rfl ?_
                  refine S_gf rfl ?_
                  refine S_pf rfl rfl ?_
                  refine S_as rfl ?_
                  refine S_nil (hK26 _ _ (V_keep [10] (by simp only [proj, lk, reduceIte, Nat.reduceEqDiff]; rfl) ?_)); clear hK26
                  refine V_ret ?_
                  refine hR _ _ (ret1 rfl rfl ?_)
                  rw [hnO, hnR]
                  first
                    | (exfalso; omega)
                    | (refine ⟨by rw [decide_eq_true (by omega)], d4, hX4⟩)
                    | (exact ⟨rfl, d4, hX4⟩)
                    | (exfalso; have h8 := hlf (by assumption); omega)
                    | (exfalso; have h8 := hlf (by cases lst; (rfl); (simp at *)); omega)
end Go.Proofs.Qxb6500409aGreat
