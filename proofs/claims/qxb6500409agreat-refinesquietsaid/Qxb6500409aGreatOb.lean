import Derived.Test.Qxb6500409aGreatOa
import Derived.Test.Qxb6500409aGreatEp
set_option linter.unusedVariables false
set_option linter.unusedSimpArgs false
namespace Go.Proofs.Qxb6500409aGreat
open Go.Eng Go.Bits Go.Blk HufW

def PT (P b : Nat) : Prop := P ≤ b ∧ b ≤ P + 4
structure PB (h : Heap) (W : WA) (cn pl co wi : Nat → Nat) : Prop where
  x : B h W.P (pcs W) 0
  c : B h (W.P + 1) (ia 273 cn) 3
  p : B h (W.P + 2) (ia 273 pl) 3
  k : B h (W.P + 3) (ia 273 co) 3
  w : B h (W.P + 4) (ia 273 wi) 3
theorem PB.ext {h h' : Heap} {W : WA} {cn pl co wi : Nat → Nat} {S : Nat → Prop} (b : PB h W cn pl co wi) (he : Ext S h h') (hs : ∀ z, PT W.P z → ¬ S z) : PB h' W cn pl co wi :=
  ⟨b.x.ext he (hs _ ⟨by omega, by omega⟩), b.c.ext he (hs _ ⟨by omega, by omega⟩), b.p.ext he (hs _ ⟨by omega, by omega⟩), b.k.ext he (hs _ ⟨by omega, by omega⟩), b.w.ext he (hs _ ⟨by omega, by omega⟩)⟩
theorem PB.setc {h h' : Heap} {W : WA} {cn pl co wi cn' : Nat → Nat} (b : PB h W cn pl co wi) (he : Ext (fun z => z = W.P + 1) h h') (hc : B h' (W.P + 1) (ia 273 cn') 3) : PB h' W cn' pl co wi :=
  ⟨b.x.ext he (by simp), hc, b.p.ext he (by simp), b.k.ext he (by simp), b.w.ext he (by simp)⟩
theorem PB.setp {h h' : Heap} {W : WA} {cn pl co wi pl' : Nat → Nat} (b : PB h W cn pl co wi) (he : Ext (fun z => z = W.P + 2) h h') (hc : B h' (W.P + 2) (ia 273 pl') 3) : PB h' W cn pl' co wi :=
  ⟨b.x.ext he (by simp), b.c.ext he (by simp), hc, b.k.ext he (by simp), b.w.ext he (by simp)⟩
theorem PB.lt {h : Heap} {W : WA} {cn pl co wi : Nat → Nat} (b : PB h W cn pl co wi) : W.P + 4 < h.size := b.w.lt
/-- a token of a list, in the heap -/
theorem tok_at {h : Heap} {nb : Nat} {T : List Lz.Tok} (hT : LzW.TokB h nb T) {k : Nat} (hk : k < T.length) : ∃ t, t ∈ T ∧ T.take (k + 1) = T.take k ++ [t] ∧ cellH h ⟨nb, k * 3, none⟩ = some (.int .i64 t.len) ∧ cellH h ⟨nb, k * 3 + 1, none⟩ = some (.int .i64 t.dist) ∧ cellH h ⟨nb, k * 3 + 2, none⟩ = some (.int .i64 t.lit) := by
  obtain ⟨h1, h2, h3⟩ := Lz.fl_at T k hk
  have hc : ∀ j, j < T.length * 3 → cellH h ⟨nb, j, none⟩ = some (.int .i64 (Lz.fl T j)) := fun j hj => B.cellA hT hj
  refine ⟨T[k], List.getElem_mem hk, by rw [List.take_add_one]; simp [hk], ?_, ?_, ?_⟩
  · rw [hc _ (by omega), h1]
  · rw [hc _ (by omega), h2]
  · rw [hc _ (by omega), h3]
theorem cell_ext {h h' : Heap} {S : Nat → Prop} {b i : Nat} (he : Ext S h h') (hb : b < h.size) (hs : ¬ S b) : cellH h' ⟨b, i, none⟩ = cellH h ⟨b, i, none⟩ := by unfold cellH; simp only [he.2 b hb hs]
theorem cn_snoc' {T : List Lz.Tok} {k : Nat} {t : Lz.Tok} (h : T.take (k + 1) = T.take k ++ [t]) (s : Nat) : cnT (T.take (k + 1)) s = cnT (T.take k) s + cn1 t s := by rw [h, cnT_snoc]
theorem ups_one (f : Nat → Nat) (a : Nat) : Huf.ups f a (f a + 1) = fun s => f s + if s = a then 1 else 0 := by
  funext s; unfold Huf.ups; by_cases e : s = a
  · rw [if_pos e, if_pos e, e]
  · rw [if_neg e, if_neg e]; rfl
theorem ra_getD {l : List Nat} {n : Nat} (h : l.length = n) : ra n (fun i => l.getD i 0) = l := by
  apply List.ext_getElem
  · rw [ra_len, h]
  · intro i h1 h2; simp [ra, h2]
theorem sm_bnd {f : Nat → Nat} {M : Nat} : ∀ {n : Nat}, (∀ i, i < n → f i ≤ M) → Huf.sm f n ≤ M * n
  | 0, _ => Nat.zero_le _
  | n + 1, h => by
    have := sm_bnd (n := n) (fun i hi => h i (by omega))
    have h2 := h n (by omega)
    rw [Huf.sm, Nat.mul_add, Nat.mul_one]; omega
theorem OLc {h : Heap} {b n : Nat} {f : Nat → Nat} (hb : B h b (ia n f) 3) (o k cap : Nat) (hk : o + k ≤ n) : OL h (some ⟨b, o, none⟩) cap (Huf.il k fun j => f (o + j)) :=
  OL.of hb o cap _ (by rw [Huf.il_len]; unfold ia; rw [arr_size]; exact hk) (fun j hj => by rw [Huf.il_len] at hj; unfold ia; rw [arr_get (by omega), Huf.il_at hj])
theorem OLcA {h : Heap} {b : Nat} {f : Nat → Nat} (hb : B h b (ia 273 f) 3) (cap : Nat) : OL h (some ⟨b, 0, none⟩) cap (cA f) := by
  have := OLc hb 0 265 cap (by omega)
  simp only [Nat.zero_add] at this; exact this
theorem OLcB {h : Heap} {b : Nat} {f : Nat → Nat} (hb : B h b (ia 273 f) 3) (cap : Nat) : OL h (some ⟨b, 265, none⟩) cap (cB f) := OLc hb 265 8 cap (by omega)
theorem lB_at (l : List Nat) (j : Nat) : (lB l).getD j 0 = (l.getD (265 + j) 0 : Int) := by
  unfold lB; rw [li_at, List.getD_eq_getElem?_getD, List.getElem?_drop, List.getD_eq_getElem?_getD]
theorem lA_at (l : List Nat) {j : Nat} (h : j < 265) : (lA l).getD j 0 = (l.getD j 0 : Int) := by
  unfold lA; rw [li_at, List.getD_eq_getElem?_getD, List.getElem?_take, if_pos h, List.getD_eq_getElem?_getD]
theorem ints_at {l : List Int} {j : Nat} (h : j < l.length) : (ints l).getD j undef = .int .i64 (l.getD j 0) := by simp [ints, h]
theorem lA_len {l : List Nat} (h : l.length = 273) : (lA l).length = 265 := by unfold lA; rw [li_len, List.length_take]; omega
theorem lB_len {l : List Nat} (h : l.length = 273) : (lB l).length = 8 := by unfold lB; rw [li_len, List.length_drop]; omega
theorem two_copy {l : List Nat} (hl : l.length = 273) {pl : Nat → Nat} {h : Heap} {b : Nat} (hb : B h b (arr 273 fun j => if 265 ≤ j ∧ j < 265 + (ints (lB l)).length then (ints (lB l)).getD (j - 265) undef else if 0 ≤ j ∧ j < 0 + (ints (lA l)).length then (ints (lA l)).getD (j - 0) undef else .int .i64 (pl j : Int)) 3) : B h b (ia 273 fun i => l.getD i 0) 3 := by
  refine hb.cong (arr_ext fun j hj => ?_)
  rw [ints_len, ints_len, lA_len hl, lB_len hl]
  by_cases e : 265 ≤ j
  · rw [if_pos ⟨e, by omega⟩, ints_at (by rw [lB_len hl]; omega), lB_at, show 265 + (j - 265) = j by omega]
  · rw [if_neg (fun z => e z.1), if_pos ⟨by omega, by omega⟩, Nat.sub_zero, ints_at (by rw [lA_len hl]; omega), lA_at _ (by omega)]
theorem mo_0 {s : Nat} (h : s < 265) : mo s = 0 := by unfold mo; rw [if_pos h]
theorem mo_1 (c : Nat) : mo (265 + c) = dM c := by unfold mo; rw [if_neg (by omega), show 265 + c - 265 = c by omega]
theorem dM_le (c : Nat) : dM c ≤ 2 := by unfold dM; split; (omega); (split <;> omega)
theorem fix_le9 {i : Nat} (h : i < 273) : fixL.getD i 0 ≤ 9 := by
  rw [fix_at h]
  repeat' split
  all_goals omega
theorem mo_le (j : Nat) : mo j ≤ 2 := by
  unfold mo; split
  · omega
  · exact dM_le _
theorem bFX_ {cn : Nat → Nat} (hcn : ∀ i, cn i ≤ 600) : ∀ i, i ≤ 273 → Huf.sm (fun s => cn s * (fixL.getD s 0 + mo s)) i ≤ 6600 * i := fun i hi => sm_bnd fun j hj => by
  have h1 := hcn j
  have h2 := fix_le9 (i := j) (by omega)
  have h3 := mo_le j
  exact Nat.le_trans (Nat.mul_le_mul h1 (show fixL.getD j 0 + mo j ≤ 11 by omega)) (by decide)
theorem bDY_ {cn pl : Nat → Nat} (hcn : ∀ i, cn i ≤ 600) (hpl : ∀ i, i < 273 → pl i ≤ 10) : ∀ i, i ≤ 273 → Huf.sm (fun s => cn s * ((ra 273 pl).getD s 0 + mo s)) i ≤ 7200 * i := fun i hi => sm_bnd fun j hj => by
  have h1 := hcn j
  have h2 := hpl j (by omega)
  have h3 := mo_le j
  rw [ra_at (by omega)]
  exact Nat.le_trans (Nat.mul_le_mul h1 (show pl j + mo j ≤ 12 by omega)) (by decide)
def chs (a b c : Nat) : Nat := if a ≤ b ∧ a ≤ c then 0 else if b ≤ c then 1 else 2
end Go.Proofs.Qxb6500409aGreat
