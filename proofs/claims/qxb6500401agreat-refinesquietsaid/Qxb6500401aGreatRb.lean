import Derived.Test.Qxb6500401aGreatWa
set_option linter.unusedVariables false
set_option linter.unusedSimpArgs false
namespace Go.Proofs.Qxb6500401aGreat
open Go.Eng Go.Trl

structure TS where
  L : List It
  k : Nat
  c : Nat
def Ok (s : TS) : Prop := TI s.L s.k s.c
def decE (s : TS) (lt : Int) : Nat := if lt ≠ 0 ∧ -12 ≤ lt ∧ lt ≤ 12 then (if valV s.L (vr lt) ≠ 0 then 9 else 0) else 7
def decS (s : TS) (lt : Int) : TS := if decE s lt = 0 then ⟨s.L ++ [⟨lt, s.k + 1, -1⟩], s.k + 1, s.c⟩ else s
def asgE (s : TS) (lt r : Int) : Nat := if lt ≠ 0 ∧ -12 ≤ lt ∧ lt ≤ 12 then (if r < -1 then 11 else if valV s.L (vr lt) ≠ 0 then 9 else 0) else 7
def asgS (s : TS) (lt r : Int) : TS := if asgE s lt r = 0 then ⟨s.L ++ [⟨lt, s.k, r⟩], s.k, s.c⟩ else s
def bjE (s : TS) (j : Int) : Nat := if j < 0 ∨ s.k < j then 10 else 0
def bjS (s : TS) (j : Int) : TS := if bjE s j = 0 then ⟨backL s.L j, j.toNat, min s.c (cnt s.L (j + 1))⟩ else s
def takeV (s : TS) : Int := if s.c < s.L.length then (s.L.getD s.c ⟨0, 0, 0⟩).lit else 0
def takeS (s : TS) : TS := if s.c < s.L.length then ⟨s.L, s.k, s.c + 1⟩ else s
def valO (s : TS) (lt : Int) : Int := if lt ≠ 0 ∧ -12 ≤ lt ∧ lt ≤ 12 then valL s.L lt else 0
theorem decE_ok {s : TS} {lt : Int} (h : decE s lt = 0) : good lt ∧ New s.L (vr lt) := by
  unfold decE at h
  split at h
  · rename_i g
    split at h
    · cases h
    · rename_i e; exact ⟨g, val_new.1 (by omega)⟩
  · cases h
theorem asgE_ok {s : TS} {lt r : Int} (h : asgE s lt r = 0) : good lt ∧ -1 ≤ r ∧ New s.L (vr lt) := by
  unfold asgE at h
  split at h
  · rename_i g
    split at h
    · cases h
    · split at h
      · cases h
      · rename_i e1 e; exact ⟨g, by omega, val_new.1 (by omega)⟩
  · cases h
theorem Ok.dec {s : TS} (h : Ok s) (lt : Int) : Ok (decS s lt) := by
  unfold decS
  split
  · rename_i e
    have := decE_ok e
    exact TI.app h this.1 (by simp) this.2 (.inr ⟨rfl, rfl⟩) (by simp)
  · exact h
theorem Ok.asg {s : TS} (h : Ok s) (lt r : Int) : Ok (asgS s lt r) := by
  unfold asgS
  split
  · rename_i e
    have := asgE_ok e
    exact TI.app h this.1 this.2.1 this.2.2 (.inl rfl) rfl
  · exact h
theorem Ok.bj {s : TS} (h : Ok s) (j : Int) : Ok (bjS s j) := by
  unfold bjS
  split
  · rename_i e
    unfold bjE at e
    split at e
    · cases e
    · obtain ⟨n, rfl⟩ : ∃ n : Nat, j = n := ⟨j.toNat, by omega⟩
      exact TI.back h (by omega)
  · exact h
theorem Ok.take {s : TS} (h : Ok s) : Ok (takeS s) := by
  unfold takeS
  split
  · exact TI.cur h (by simp only; omega)
  · exact h
theorem Ok.zero : Ok ⟨[], 0, 0⟩ := TI.zero
/-- the real trail -/
def RS (h : Heap) (X : Nat) (s : TS) (p : Nat) : Prop := ∃ Q, RT h X Q s.L s.k s.c p
theorem RS.ext {h h' : Heap} {X : Nat} {s : TS} {p : Nat} {S : Nat → Prop} (r : RS h X s p) (he : Ext S h h') (hs : ¬ S X) : RS h' X s p := by
  obtain ⟨Q, r⟩ := r; exact ⟨Q, r.ext he hs⟩
theorem RS.eq {h : Heap} {X : Nat} {s s2 : TS} {p : Nat} (r : RS h X s p) (e : s = s2) : RS h X s2 p := e ▸ r
theorem RS.lt {h : Heap} {X : Nat} {s : TS} {p : Nat} (r : RS h X s p) : X < h.size := by obtain ⟨Q, r⟩ := r; exact r.b.lt
theorem RS.ok {h : Heap} {X : Nat} {s : TS} {p : Nat} (r : RS h X s p) : Ok s := by obtain ⟨Q, r⟩ := r; exact r.r.ti
/-- one step of the levels -/
theorem Lv_at : ∀ {L : List It} {b k : Int} {i : Nat} {x : It}, Lv L b k → L[i]? = some x → (x.lev = lastL (L.take i) b ∨ (x.lev = lastL (L.take i) b + 1 ∧ x.rea = -1 ∧ cnt L x.lev = i)) ∧ lastL (L.take (i + 1)) b = x.lev
  | [], b, k, i, x, h, hx => by simp at hx
  | y :: r, b, k, 0, x, h, hx => by
    simp only [List.getElem?_cons_zero, Option.some.injEq] at hx; subst hx
    refine ⟨?_, by simp [lastL]⟩
    rcases h.1 with e | e
    · exact .inl (by simpa [lastL] using e)
    · refine .inr ⟨by simpa [lastL] using e.1, e.2, ?_⟩
      unfold cnt
      rw [List.length_eq_zero_iff, List.filter_eq_nil_iff]
      intro z hz
      rcases List.mem_cons.1 hz with e | e
      · subst e; simp
      · have := (Lv_le h.2).2 z e; simp; omega
  | y :: r, b, k, i + 1, x, h, hx => by
    have ih := Lv_at h.2 (show r[i]? = some x by simpa using hx)
    refine ⟨?_, by simpa [lastL] using ih.2⟩
    rcases ih.1 with e | ⟨e1, e2, e3⟩
    · exact .inl (by simpa [lastL] using e)
    · refine .inr ⟨by simpa [lastL] using e1, e2, ?_⟩
      have hy : y.lev < x.lev := by
        have := (Lv_le (Lv_take i h.2)).1
        omega
      unfold cnt at e3 ⊢
      simp [List.filter_cons, hy, e3]
theorem range_one {p q : Nat → Bool} {v : Nat} (hp : p v = false) (hq : q v = true) (he : ∀ u, u ≠ v → p u = q u) : ∀ n, v < n → ((List.range n).filter q).length = ((List.range n).filter p).length + 1
  | 0, h => by omega
  | n + 1, h => by
    rw [List.range_succ, List.filter_append, List.filter_append, List.length_append, List.length_append]
    by_cases e : v = n
    · subst e
      have : (List.range v).filter q = (List.range v).filter p := List.filter_congr fun u hu => (he u (by have := List.mem_range.1 hu; omega)).symm
      rw [this]; simp [hp, hq]
    · have ih := range_one hp hq he n (by omega)
      rw [ih]
      have : ([n] : List Nat).filter q = [n].filter p := by simp [List.filter_cons, he n (fun x => e x.symm)]
      rw [this]; omega
def nset (L : List It) (n : Nat) : Nat := ((List.range n).filter fun v : Nat => decide (valV L (v : Int) ≠ 0)).length
theorem nset_all {L : List It} {k c : Nat} (h : TI L k c) : ∀ i, i ≤ L.length → nset (L.take i) 13 = i
  | 0, _ => by
    unfold nset; rw [List.length_eq_zero_iff, List.filter_eq_nil_iff]; intro v _; simp [valV, loc]
  | i + 1, hi => by
    have hlt : i < L.length := by omega
    have hn := h.new hlt
    have hd : L.getD i ⟨0, 0, 0⟩ = L[i] := by simp [hlt]
    rw [hd] at hn
    have hg := good_vr (h.g L[i] (List.getElem_mem hlt)).1
    have ht : L.take (i + 1) = L.take i ++ [L[i]] := by rw [List.take_add_one]; simp [hlt]
    rw [ht]
    unfold nset
    rw [range_one (p := fun v => decide (valV (L.take i) (v : Int) ≠ 0)) (v := (vr L[i].lit).toNat)]
    · have := nset_all h i (by omega); unfold nset at this; rw [this]
    · have := (new_val hn).1; simp [show ((vr L[i].lit).toNat : Int) = vr L[i].lit by omega, this]
    · rw [valV_app hn]; simp only [show ((vr L[i].lit).toNat : Int) = vr L[i].lit by omega, if_true]; split <;> simp
    · intro u hu; rw [valV_app hn, if_neg (by omega)]
    · omega
theorem nset_succ (L : List It) (n : Nat) : nset L (n + 1) = nset L n + if valV L (n : Int) ≠ 0 then 1 else 0 := by
  unfold nset; rw [List.range_succ, List.filter_append, List.length_append]
  by_cases e : valV L (n : Int) ≠ 0
  · simp [e]
  · simp [e]
theorem valV_range (L : List It) (v : Int) : -1 ≤ valV L v ∧ valV L v ≤ 1 := by unfold valV; split; (split <;> omega); omega
theorem i8_i64 {x : Int} (h : -1 ≤ x ∧ x ≤ 1) : -9223372036854775808 ≤ x ∧ x < 9223372036854775808 := by omega
end Go.Proofs.Qxb6500401aGreat
