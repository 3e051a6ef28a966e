import Derived.Test.Qxb6500401aGreatLw
set_option linter.unusedVariables false
set_option linter.unusedSimpArgs false
namespace Go.Wat
open Go.Chk Go.Trl Go.Eng
/-- how many indices from a to below b are in the set -/
def cI (I : Nat → Bool) (a b : Nat) : Nat := ((List.range' a (b - a)).filter fun i => I i).length
theorem cI_self (I : Nat → Bool) (a : Nat) : cI I a a = 0 := by unfold cI; simp
theorem cI_step (I : Nat → Bool) {a b : Nat} (h : a ≤ b) : cI I a (b + 1) = cI I a b + if I b then 1 else 0 := by
  unfold cI
  rw [show b + 1 - a = (b - a) + 1 by omega, List.range'_concat, List.filter_append, List.length_append, Nat.one_mul, show a + (b - a) = b by omega]
  congr 1
  cases e : I b <;> simp [List.filter_cons, e]
theorem cI_lt (I : Nat → Bool) {a b : Nat} (h : b ≤ a) : cI I a b = 0 := by unfold cI; rw [show b - a = 0 by omega]; rfl
theorem cI_ext {I J : Nat → Bool} {a b : Nat} (h : ∀ i, a ≤ i → i < b → I i = J i) : cI I a b = cI J a b := by
  unfold cI; congr 1; apply List.filter_congr; intro i hi; rw [List.mem_range'_1] at hi; exact h i hi.1 (by omega)
theorem cI_pos {I : Nat → Bool} {a : Nat} : ∀ {b : Nat}, 0 < cI I a b → ∃ i, a ≤ i ∧ i < b ∧ I i = true := fun {b} h => by
  unfold cI at h
  obtain ⟨i, hi⟩ := List.exists_mem_of_length_pos h
  rw [List.mem_filter, List.mem_range'_1] at hi
  exact ⟨i, hi.1.1, by omega, hi.2⟩
theorem cI_one {I : Nat → Bool} {a b i : Nat} (h1 : a ≤ i) (h2 : i < b) (h : I i = true) : 1 ≤ cI I a b := by
  unfold cI
  have : i ∈ (List.range' a (b - a)).filter fun i => I i := List.mem_filter.2 ⟨List.mem_range'_1.2 ⟨h1, by omega⟩, h⟩
  exact List.length_pos_of_mem this
theorem cI_mono {I : Nat → Bool} {a b : Nat} (h : a ≤ b) : ∀ d, cI I a b ≤ cI I a (b + d)
  | 0 => Nat.le_refl _
  | d + 1 => by have := cI_mono (I := I) h d; rw [← Nat.add_assoc, cI_step I (by omega)]; omega
theorem cI_two {I : Nat → Bool} {a : Nat} : ∀ {b : Nat}, 2 ≤ cI I a b → I (b - 1) = true → ∃ i, a ≤ i ∧ i < b - 1 ∧ I i = true := fun {b} h hb => by
  rcases Nat.lt_or_ge a b with q | q
  · rw [show b = (b - 1) + 1 by omega, cI_step I (by omega), hb] at h
    simp at h
    exact cI_pos (by omega)
  · rw [cI_lt I q] at h; omega
theorem cI_le (I : Nat → Bool) (a b : Nat) : cI I a b ≤ b - a := by
  unfold cI; exact Nat.le_trans (List.length_filter_le _ _) (by simp)
/-- one in a set, none above -/
theorem cI_uniq {I : Nat → Bool} {a b : Nat} (h : cI I a b ≤ 1) {i j : Nat} (h1 : a ≤ i) (h2 : i < b) (h3 : a ≤ j) (h4 : j < b) (hi : I i = true) (hj : I j = true) : i = j := by
  have key : ∀ {i j : Nat}, i < j → a ≤ i → j < b → I i = true → I j = true → False := fun {i j} hlt q1 q2 e1 e2 => by
    have c1 := cI_one (b := j) q1 hlt e1
    have c2 := cI_step I (a := a) (b := j) (by omega)
    rw [e2] at c2; simp at c2
    obtain ⟨d, hd⟩ : ∃ d, b = (j + 1) + d := ⟨b - (j + 1), by omega⟩
    have c3 := cI_mono (I := I) (a := a) (b := j + 1) (by omega) d
    rw [← hd] at c3; omega
  rcases Nat.lt_trichotomy i j with q | q | q
  · exact absurd (key q h1 h4 hi hj) (fun f => f)
  · exact q
  · exact absurd (key q h3 h2 hj hi) (fun f => f)
/-- the set of a clause -/
def ixC (ls c : List Int) : Nat → Bool := fun j => decide (j < ls.length ∧ -(ls.getD j 0) ∈ c)
def stI (R : Nat → Bool) (I : Nat → Bool) (j : Nat) : Nat → Bool := fun i => (decide (i ≠ j) && I i) || R i
/-- down to the first unique implication point -/
def uip (ri : Nat → Nat → Bool) (m : Nat) : Nat → (Nat → Bool) → (Nat → Bool)
  | 0, I => I
  | j + 1, I => if cI I m (j + 1) ≤ 1 then I else if I j then uip ri m j (stI (ri j) I j) else uip ri m j I
/-- a sound trail -/
def Sn (cl : Nat → Option (List Int)) (L : List It) : Prop := ∀ (i : Nat) (x : It), L[i]? = some x → (x.rea = -1 ∧ cnt L x.lev = i ∧ 1 ≤ x.lev) ∨ U1 cl (L.take i) x
theorem Sn.nil (cl : Nat → Option (List Int)) : Sn cl [] := fun i x h => by simp at h
theorem Sn.take {cl : Nat → Option (List Int)} {L : List It} {b k : Int} (h : Sn cl L) (hl : Lv L b k) (n : Nat) : Sn cl (L.take n) := fun i x hx => by
  have hi : i < n := by
    rcases Nat.lt_or_ge i n with q | q
    · exact q
    · rw [List.getElem?_eq_none (by rw [List.length_take]; omega)] at hx; cases hx
  rw [List.getElem?_take, if_pos hi] at hx
  rcases h i x hx with q | q
  · left
    refine ⟨q.1, ?_, q.2.2⟩
    have hc := (cnt_take x.lev hl).1
    rw [q.2.1] at hc
    unfold cnt
    have : (L.take n).filter (fun y => decide (y.lev < x.lev)) = L.take i := by
      rw [← hc]
      have h2 : L = L.take n ++ L.drop n := (List.take_append_drop n L).symm
      have h3 : (L.drop n).filter (fun y => decide (y.lev < x.lev)) = [] := by
        rw [List.filter_eq_nil_iff]
        intro y hy
        have h4 := (cnt_take x.lev hl).2 y (by
          rw [q.2.1]
          have : L.drop n = (L.drop i).drop (n - i) := by rw [List.drop_drop]; congr 1; omega
          rw [this] at hy; exact List.mem_of_mem_drop hy)
        simp; omega
      calc (L.take n).filter (fun y => decide (y.lev < x.lev)) = (L.take n).filter (fun y => decide (y.lev < x.lev)) ++ (L.drop n).filter (fun y => decide (y.lev < x.lev)) := by rw [h3, List.append_nil]
        _ = (L.take n ++ L.drop n).filter (fun y => decide (y.lev < x.lev)) := by rw [List.filter_append]
        _ = L.filter (fun y => decide (y.lev < x.lev)) := by rw [List.take_append_drop]
    rw [this, List.length_take]
    have : i < L.length := by
      rcases Nat.lt_or_ge i L.length with z | z
      · exact z
      · rw [List.getElem?_eq_none z] at hx; cases hx
    omega
  · right; rw [List.take_take, Nat.min_eq_left (by omega)]; exact q
theorem Sn.app {cl : Nat → Option (List Int)} {L : List It} {x : It} {b k : Int} (h : Sn cl L) (hl : Lv L b k) (hk : k ≤ x.lev) (hx : (x.rea = -1 ∧ x.lev = k + 1 ∧ 0 ≤ k) ∨ U1 cl L x) : Sn cl (L ++ [x]) := fun i y hy => by
  rcases Nat.lt_or_ge i L.length with q | q
  · rw [List.getElem?_append_left q] at hy
    rw [List.take_append_of_le_length (by omega)]
    rcases h i y hy with z | z
    · left
      refine ⟨z.1, ?_, z.2.2⟩
      have hyl := (Lv_le hl).2 y (List.mem_of_getElem? hy)
      rw [cnt_app, if_neg (by omega), z.2.1]; rfl
    · exact .inr z
  · rw [List.getElem?_append_right q] at hy
    have hi2 : i - L.length = 0 := by
      rcases Nat.eq_zero_or_pos (i - L.length) with z | z
      · exact z
      · rw [List.getElem?_eq_none (by simp; omega)] at hy; cases hy
    rw [hi2] at hy
    simp only [List.getElem?_cons_zero, Option.some.injEq] at hy
    subst hy
    have : i = L.length := by omega
    subst this
    rw [List.take_append_of_le_length (Nat.le_refl _), List.take_length]
    rcases hx with z | z
    · left; refine ⟨z.1, ?_, by omega⟩
      rw [cnt_app, if_neg (by omega), cnt_all hl (by omega)]; rfl
    · exact .inr z
/-- clauses may come, and go where no literal of them rests on them -/
theorem Sn.mono {cl cl' : Nat → Option (List Int)} {L : List It} (h : Sn cl L) (hc : ∀ (i : Nat) (x : It), L[i]? = some x → ∀ (id : Nat) (c : List Int), x.rea = id → cl id = some c → x.lit ∈ c → cl' id = some c) : Sn cl' L := fun i x hx => by
  rcases h i x hx with q | ⟨id, c, h1, h2, h3, h4, h5⟩
  · exact .inl q
  · exact .inr ⟨id, c, h1, h2, hc i x hx id c h2 h3 h4, h4, h5⟩
end Go.Wat
