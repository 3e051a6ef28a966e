import Derived.Test.Qxb6500401aGreatEl
set_option linter.unusedVariables false
set_option linter.unusedSimpArgs false
namespace Go.Trl
open Go.Eng
structure It where
  lit : Int
  lev : Int
  rea : Int
def vr (l : Int) : Int := if l < 0 then -l else l
theorem vr_neg (l : Int) : vr (-l) = vr l := by unfold vr; split <;> split <;> omega
def good (l : Int) : Prop := l ≠ 0 ∧ -12 ≤ l ∧ l ≤ 12
theorem good_vr {l : Int} (h : good l) : 1 ≤ vr l ∧ vr l ≤ 12 := by unfold good at h; unfold vr; split <;> omega
/-- the item of a variable, and its place -/
def loc : List It → Int → Option (Nat × It)
  | [], _ => none
  | x :: r, v => if vr x.lit = v then some (0, x) else (loc r v).map fun p => (p.1 + 1, p.2)
theorem loc_none {v : Int} : ∀ {L : List It}, loc L v = none ↔ ∀ x ∈ L, vr x.lit ≠ v
  | [] => by simp [loc]
  | x :: r => by
    unfold loc
    by_cases h : vr x.lit = v
    · simp [h]
    · simp [h, loc_none (L := r)]
theorem loc_some {v : Int} : ∀ {L : List It} {i : Nat} {x : It}, loc L v = some (i, x) → L[i]? = some x ∧ vr x.lit = v
  | [], i, x, h => by simp [loc] at h
  | y :: r, i, x, h => by
    unfold loc at h
    split at h
    · rename_i e; simp only [Option.some.injEq, Prod.mk.injEq] at h; obtain ⟨rfl, rfl⟩ := h; exact ⟨by simp, e⟩
    · simp only [Option.map_eq_some_iff, Prod.mk.injEq] at h
      obtain ⟨⟨j, z⟩, h1, rfl, rfl⟩ := h
      have := loc_some h1
      exact ⟨by simpa using this.1, this.2⟩
theorem loc_app {v : Int} {x : It} : ∀ {L : List It}, loc (L ++ [x]) v = match loc L v with | some p => some p | none => if vr x.lit = v then some (L.length, x) else none
  | [] => by simp [loc]
  | y :: r => by
    simp only [List.cons_append, loc]
    by_cases h : vr y.lit = v
    · simp [h]
    · simp only [h, if_false, loc_app (L := r)]
      cases loc r v with
      | some p => rfl
      | none => simp only [Option.map_none]; split <;> simp
theorem loc_at {v : Int} {x : It} : ∀ {L : List It} {i : Nat}, loc (L.take i) v = none → L[i]? = some x → vr x.lit = v → loc L v = some (i, x)
  | [], i, _, h, _ => by simp at h
  | y :: r, 0, _, h, hv => by simp only [List.getElem?_cons_zero, Option.some.injEq] at h; subst h; simp [loc, hv]
  | y :: r, i + 1, hn, h, hv => by
    simp only [List.take_succ_cons, loc] at hn
    split at hn
    · cases hn
    · rename_i e
      simp only [Option.map_eq_none_iff] at hn
      simp only [loc, e, if_false, loc_at hn (by simpa using h) hv, Option.map_some]
def valV (L : List It) (v : Int) : Int := match loc L v with | some p => if p.2.lit < 0 then -1 else 1 | none => 0
def levV (L : List It) (v : Int) : Int := match loc L v with | some p => p.2.lev | none => -1
def reaV (L : List It) (v : Int) : Int := match loc L v with | some p => p.2.rea | none => -1
def plaV (L : List It) (v : Int) : Int := match loc L v with | some p => (p.1 : Int) | none => -1
/-- the value of a literal -/
def valL (L : List It) (l : Int) : Int := if l < 0 then -(valV L (-l)) else valV L l
def atL (L : List It) (i : Int) : Int := if 0 ≤ i ∧ i < L.length then (L.getD i.toNat ⟨0, 0, 0⟩).lit else 0
def New (L : List It) (v : Int) : Prop := loc L v = none
section app
variable {L : List It} {x : It} {v : Int}
theorem valV_app (h : New L (vr x.lit)) : valV (L ++ [x]) v = if v = vr x.lit then (if x.lit < 0 then -1 else 1) else valV L v := by
  unfold valV; rw [loc_app]
  by_cases e : v = vr x.lit
  · subst e; rw [h]; simp
  · rw [if_neg e]; cases loc L v with
    | some p => rfl
    | none => simp [Ne.symm e]
theorem levV_app (h : New L (vr x.lit)) : levV (L ++ [x]) v = if v = vr x.lit then x.lev else levV L v := by
  unfold levV; rw [loc_app]
  by_cases e : v = vr x.lit
  · subst e; rw [h]; simp
  · rw [if_neg e]; cases loc L v with
    | some p => rfl
    | none => simp [Ne.symm e]
theorem reaV_app (h : New L (vr x.lit)) : reaV (L ++ [x]) v = if v = vr x.lit then x.rea else reaV L v := by
  unfold reaV; rw [loc_app]
  by_cases e : v = vr x.lit
  · subst e; rw [h]; simp
  · rw [if_neg e]; cases loc L v with
    | some p => rfl
    | none => simp [Ne.symm e]
theorem plaV_app (h : New L (vr x.lit)) : plaV (L ++ [x]) v = if v = vr x.lit then (L.length : Int) else plaV L v := by
  unfold plaV; rw [loc_app]
  by_cases e : v = vr x.lit
  · subst e; rw [h]; simp
  · rw [if_neg e]; cases loc L v with
    | some p => rfl
    | none => simp [Ne.symm e]
end app
theorem new_val {L : List It} {v : Int} (h : New L v) : valV L v = 0 ∧ levV L v = -1 ∧ reaV L v = -1 ∧ plaV L v = -1 := by
  unfold valV levV reaV plaV; rw [h]; exact ⟨rfl, rfl, rfl, rfl⟩
theorem val_new {L : List It} {v : Int} : valV L v = 0 ↔ New L v := by
  unfold valV New
  cases loc L v with
  | none => simp
  | some p => simp; split <;> omega
theorem pla_new {L : List It} {v : Int} : plaV L v < 0 ↔ New L v := by
  unfold plaV New
  cases loc L v with
  | none => simp
  | some p => simp
/-- levels never fall, begin at b or one above it, rise by one at the most, and end at k; where one rises the reason is -1 -/
def Lv : List It → Int → Int → Prop
  | [], b, k => b = k
  | x :: r, b, k => (x.lev = b ∨ (x.lev = b + 1 ∧ x.rea = -1)) ∧ Lv r x.lev k
theorem Lv_app {x : It} : ∀ {L : List It} {b k k' : Int}, Lv L b k → (x.lev = k ∨ (x.lev = k + 1 ∧ x.rea = -1)) → k' = x.lev → Lv (L ++ [x]) b k'
  | [], b, k, k', h, hx, hk => by unfold Lv at h; subst h; exact ⟨hx, hk.symm⟩
  | y :: r, b, k, k', h, hx, hk => ⟨h.1, Lv_app h.2 hx hk⟩
theorem Lv_le : ∀ {L : List It} {b k : Int}, Lv L b k → b ≤ k ∧ ∀ x ∈ L, b ≤ x.lev ∧ x.lev ≤ k
  | [], b, k, h => ⟨by unfold Lv at h; omega, by simp⟩
  | y :: r, b, k, h => by
    have := Lv_le h.2
    have h1 := h.1
    refine ⟨by omega, fun x hx => ?_⟩
    rcases List.mem_cons.1 hx with e | e
    · subst e; omega
    · have := this.2 x e; omega
/-- the last level of a row of items -/
def lastL : List It → Int → Int
  | [], b => b
  | x :: r, b => lastL r x.lev
theorem Lv_last : ∀ {L : List It} {b k : Int}, Lv L b k → lastL L b = k
  | [], b, k, h => h
  | x :: r, b, k, h => by unfold lastL; exact Lv_last h.2
theorem Lv_take : ∀ {L : List It} {b k : Int} (n : Nat), Lv L b k → Lv (L.take n) b (lastL (L.take n) b)
  | [], b, k, n, h => by simp [Lv, lastL]
  | x :: r, b, k, 0, h => by simp [Lv, lastL]
  | x :: r, b, k, n + 1, h => ⟨h.1, Lv_take n h.2⟩
/-- how many items lie below level j -/
def cnt (L : List It) (j : Int) : Nat := (L.filter fun x => decide (x.lev < j)).length
theorem cnt_take : ∀ {L : List It} {b k : Int} (j : Int), Lv L b k → L.filter (fun x => decide (x.lev < j)) = L.take (cnt L j) ∧ (∀ x ∈ L.drop (cnt L j), j ≤ x.lev)
  | [], b, k, j, h => by simp [cnt]
  | x :: r, b, k, j, h => by
    have ih := cnt_take j h.2
    by_cases hx : x.lev < j
    · simp only [cnt, List.filter_cons, hx, decide_true, if_true, List.length_cons, List.take_succ_cons, List.drop_succ_cons]
      exact ⟨by rw [ih.1]; simp only [cnt] at ih ⊢; rw [ih.1]; simp, by simpa [cnt] using ih.2⟩
    · have hall : ∀ y ∈ x :: r, ¬ y.lev < j := by
        intro y hy
        rcases List.mem_cons.1 hy with e | e
        · rw [e]; exact hx
        · have := (Lv_le h.2).2 y e; omega
      have hf : (x :: r).filter (fun x => decide (x.lev < j)) = [] := by
        rw [List.filter_eq_nil_iff]; intro y hy; simpa using hall y hy
      simp only [cnt, hf, List.length_nil, List.take_zero, List.drop_zero, true_and]
      intro y hy; have := hall y hy; omega
theorem cnt_le (L : List It) (j : Int) : cnt L j ≤ L.length := List.length_filter_le _ _
theorem cnt_app (L : List It) (x : It) (j : Int) : cnt (L ++ [x]) j = cnt L j + if x.lev < j then 1 else 0 := by
  unfold cnt; rw [List.filter_append, List.length_append]
  by_cases h : x.lev < j
  · simp [h]
  · simp [h]
theorem cnt_all {L : List It} {b k j : Int} (h : Lv L b k) (hj : k < j) : cnt L j = L.length := by
  unfold cnt; rw [List.length_filter_eq_length_iff]
  intro x hx; have := ((Lv_le h).2 x hx).2; simp; omega
theorem lastL_app (L : List It) (x : It) (b : Int) : lastL (L ++ [x]) b = x.lev := by
  induction L generalizing b with
  | nil => rfl
  | cons y r ih => exact ih _
/-- the first item at or above level j+1 rises there: below it the level is j -/
theorem cnt_last : ∀ {L : List It} {b k j : Int}, Lv L b k → b ≤ j → j < k → lastL (L.take (cnt L (j + 1))) b = j
  | [], b, k, j, h, h1, h2 => by unfold Lv at h; omega
  | x :: r, b, k, j, h, h1, h2 => by
    by_cases hx : x.lev < j + 1
    · have : cnt (x :: r) (j + 1) = cnt r (j + 1) + 1 := by simp [cnt, hx]
      rw [this, List.take_succ_cons]
      exact cnt_last h.2 (by omega) h2
    · have h3 := h.1
      have hz : cnt (x :: r) (j + 1) = 0 := by
        have := cnt_take (j + 1) h
        unfold cnt
        rw [List.length_eq_zero_iff, List.filter_eq_nil_iff]
        intro y hy
        rcases List.mem_cons.1 hy with e | e
        · subst e; simpa using hx
        · have := (Lv_le h.2).2 y e; simp; omega
      rw [hz]; simp only [List.take_zero, lastL]; omega
/-- all that a trail keeps -/
structure TI (L : List It) (k c : Nat) : Prop where
  g : ∀ x ∈ L, good x.lit ∧ -1 ≤ x.rea
  nd : (L.map fun x => vr x.lit).Nodup
  lv : Lv L 0 k
  c : c ≤ L.length
theorem TI.len {L : List It} {k c : Nat} (h : TI L k c) : L.length ≤ 12 := by
  have h1 := h.nd.length_le_of_subset (l₂ := [1, 2, 3, 4, 5, 6, 7, 8, 9, 10, 11, 12]) (fun v hv => by
    rw [List.mem_map] at hv
    obtain ⟨x, hx, rfl⟩ := hv
    have := good_vr (h.g x hx).1
    simp only [List.mem_cons, List.not_mem_nil, or_false]; omega)
  simpa using h1
theorem Lv_dep : ∀ {L : List It} {b k : Int}, Lv L b k → k ≤ b + L.length
  | [], b, k, h => by unfold Lv at h; simp; omega
  | x :: r, b, k, h => by have := Lv_dep h.2; have := h.1; simp; omega
theorem TI.dep {L : List It} {k c : Nat} (h : TI L k c) : k ≤ L.length := by have := Lv_dep h.lv; omega
theorem TI.loc {L : List It} {k c i : Nat} {x : It} (h : TI L k c) (hx : L[i]? = some x) : loc L (vr x.lit) = some (i, x) := by
  refine loc_at ?_ hx rfl
  rw [loc_none]
  intro y hy e
  rw [List.mem_take_iff_getElem] at hy
  obtain ⟨j, hj, rfl⟩ := hy
  have hi : i < L.length := by
    rcases Nat.lt_or_ge i L.length with x | x
    · exact x
    · simp [List.getElem?_eq_none x] at hx
  have hxi : L[i] = x := by simpa [List.getElem?_eq_getElem hi] using hx
  have hj2 : j < L.length := by omega
  have := (List.pairwise_iff_getElem.1 h.nd) j i (by simpa using hj2) (by simpa using hi) (by omega)
  apply this
  simp [hxi, e]
theorem TI.new {L : List It} {k c i : Nat} (h : TI L k c) (hi : i < L.length) : New (L.take i) (vr (L.getD i ⟨0, 0, 0⟩).lit) := by
  have hx : L[i]? = some L[i] := List.getElem?_eq_getElem hi
  have hd : L.getD i ⟨0, 0, 0⟩ = L[i] := by simp [hi]
  rw [hd]
  unfold New; rw [loc_none]
  intro y hy e
  rw [List.mem_take_iff_getElem] at hy
  obtain ⟨j, hj, rfl⟩ := hy
  have hj2 : j < L.length := by omega
  have := (List.pairwise_iff_getElem.1 h.nd) j i (by simpa using hj2) (by simpa using hi) (by omega)
  apply this
  simp [e]
theorem TI.app {L : List It} {k c k' : Nat} {x : It} (h : TI L k c) (hg : good x.lit) (hr : -1 ≤ x.rea) (hn : New L (vr x.lit)) (hk : x.lev = k ∨ (x.lev = k + 1 ∧ x.rea = -1)) (hk' : (k' : Int) = x.lev) : TI (L ++ [x]) k' c := by
  refine ⟨fun y hy => ?_, ?_, Lv_app h.lv hk hk', by have := h.c; simp; omega⟩
  · rcases List.mem_append.1 hy with e | e
    · exact h.g y e
    · simp only [List.mem_singleton] at e; subst e; exact ⟨hg, hr⟩
  · rw [List.map_append, List.nodup_append]
    refine ⟨h.nd, by simp, ?_⟩
    intro a ha b hb
    simp only [List.map_cons, List.map_nil, List.mem_singleton] at hb
    rw [List.mem_map] at ha
    obtain ⟨y, hy, rfl⟩ := ha
    rw [hb]
    exact loc_none.1 hn y hy
theorem TI.take {L : List It} {k c : Nat} (h : TI L k c) {n k' c' : Nat} (hk : (k' : Int) = lastL (L.take n) 0) (hc : c' ≤ min n L.length) : TI (L.take n) k' c' :=
  ⟨fun x hx => h.g x (List.mem_of_mem_take hx), by rw [List.map_take]; exact h.nd.sublist (List.take_sublist _ _), by rw [hk]; exact Lv_take n h.lv, by rw [List.length_take]; exact hc⟩
theorem TI.zero : TI [] 0 0 := ⟨by simp, by simp, rfl, by simp⟩
theorem TI.cur {L : List It} {k c c' : Nat} (h : TI L k c) (hc : c' ≤ L.length) : TI L k c' := ⟨h.g, h.nd, h.lv, hc⟩
/-- back to a level -/
def backL (L : List It) (j : Int) : List It := L.take (cnt L (j + 1))
theorem backL_eq {L : List It} {k c : Nat} (h : TI L k c) (j : Int) : L.filter (fun x => decide (x.lev ≤ j)) = backL L j := by
  have := (cnt_take (j + 1) h.lv).1
  unfold backL; rw [← this]
  apply List.filter_congr
  intro x _
  have : x.lev ≤ j ↔ x.lev < j + 1 := by omega
  simp [this]
theorem TI.back {L : List It} {k c j : Nat} (h : TI L k c) (hj : j ≤ k) : TI (backL L j) j (min c (cnt L ((j : Int) + 1))) := by
  refine h.take ?_ (by have := h.c; omega)
  by_cases e : j = k
  · subst e
    rw [cnt_all h.lv (by omega), List.take_length, Lv_last h.lv]
  · rw [cnt_last h.lv (by omega) (by omega)]
theorem loc_mem {L : List It} {v : Int} {i : Nat} {x : It} (h : loc L v = some (i, x)) : x ∈ L := List.mem_of_getElem? (loc_some h).1
theorem bad_new {L : List It} {k c : Nat} (h : TI L k c) {v : Int} (hv : ¬ (1 ≤ v ∧ v ≤ 12)) : New L v := by
  unfold New; rw [loc_none]; intro x hx e; have := good_vr (h.g x hx).1; omega
theorem valL_eq {L : List It} {l : Int} (hg : good l) : valL L l = match loc L (vr l) with | some p => if p.2.lit = l then 1 else -1 | none => 0 := by
  unfold good at hg
  unfold valL valV
  by_cases hl : l < 0
  · rw [if_pos hl, show vr l = -l by unfold vr; rw [if_pos hl]]
    cases e : loc L (-l) with
    | none => rfl
    | some p =>
      have := (loc_some e).2
      simp only []
      unfold vr at this
      split at this <;> (repeat' split) <;> omega
  · rw [if_neg hl, show vr l = l by unfold vr; rw [if_neg hl]]
    cases e : loc L l with
    | none => rfl
    | some p =>
      have := (loc_some e).2
      simp only []
      unfold vr at this
      split at this <;> (repeat' split) <;> omega
end Go.Trl
