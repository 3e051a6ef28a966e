import Derived.Test.Qxb6500398aWd
set_option linter.unusedVariables false
set_option linter.unusedSimpArgs false
namespace Go.Proofs.Qxb6500398a
open Go.Eng Go.Cnf

def FlatN (x : Int) : Prop := x = 13 ∨ (-12 ≤ x ∧ x ≤ 12)
theorem numB_len {x : Int} (h : FlatN x) : (numB x).length = if x = 13 ∨ x = 0 then 2 else (if x < 0 then 1 else 0) + (if 10 ≤ x.natAbs then 1 else 0) + 2 := by
  unfold numB FlatN at *
  by_cases h1 : x = 13
  · simp [h1]
  · by_cases h2 : x = 0
    · simp [h2]
    · simp only [h1, h2, or_self, if_false, List.length_append]
      by_cases h3 : x < 0 <;> by_cases h4 : 10 ≤ x.natAbs <;> simp [h3, h4]
/-- the buffer: the bytes of L, then zeros -/
def bufG (L : List Nat) (j : Nat) : Int := if j < L.length then ((L.getD j 0 : Nat) : Int) else 0
theorem buf_put {h : Heap} {b n : Nat} {L : List Nat} {t : TypeId} (hB : B h b (arr n fun j => .int .u8 (bufG L j)) t) (c : Nat) : B (putH h ⟨b, L.length, none⟩ (.int .u8 (c : Int))) b (arr n fun j => .int .u8 (bufG (L ++ [c]) j)) t := by
  refine (hB.putA L.length _).cong (arr_ext fun j _ => ?_)
  unfold bufG
  by_cases h1 : j = L.length
  · subst h1; simp
  · rw [if_neg h1]; congr 1
    by_cases h2 : j < L.length
    · rw [if_pos h2, if_pos (by simp; omega)]; congr 1; simp [List.getD_eq_getElem?_getD, List.getElem?_append_left h2]
    · rw [if_neg h2, if_neg (by simp; omega)]
theorem buf_putE {h : Heap} {b n i : Nat} {L : List Nat} {t : TypeId} {v : Value} (hB : B h b (arr n fun j => .int .u8 (bufG L j)) t) (c : Nat) (hi : i = L.length) (hv : v = .int .u8 (c : Int)) : B (putH h ⟨b, i, none⟩ v) b (arr n fun j => .int .u8 (bufG (L ++ [c]) j)) t := by
  subst hi hv; exact buf_put hB c
theorem buf_str (L : List Nat) : mkS ((List.range L.length).map (bufG L)) = textOf L := by
  unfold mkS textOf
  congr 2
  refine List.ext_getElem? fun j => ?_
  by_cases hj : j < L.length
  · simp [hj, bufG]
  · simp [hj]
def printF (l : List Int) : ByteArray × Nat := if 262144 < l.length then (⟨#[]⟩, 1) else if flatOk l then (textOf (printB l), 0) else (⟨#[]⟩, 6)
theorem flat_rng {l : List Int} (h : flatOk l = true) : ∀ x ∈ l, FlatN x := by
  unfold flatOk at h
  simp only [Bool.and_eq_true, Option.isSome_iff_exists] at h
  obtain ⟨⟨c, hc⟩, _⟩ := h
  exact ckR_rng l _ c hc
theorem print_take {l : List Int} {i : Nat} (h : i < l.length) : printB (l.take (i + 1)) = printB (l.take i) ++ numB (l.getD i 0) := by
  rw [getD_snoc l i h]; simp [printB]
theorem print_take_le {l : List Int} (hr : ∀ x ∈ l, FlatN x) (i : Nat) : (printB (l.take i)).length ≤ 4 * l.length := by
  have := (printB_len (l.take i) (fun x hx => hr x (List.mem_of_mem_take hx))).1
  have h2 : (l.take i).length ≤ l.length := by simp; omega
  omega
theorem print_pre {l : List Int} {i : Nat} (h : i < l.length) : (printB (l.take i)).length + (numB (l.getD i 0)).length ≤ (printB l).length := by
  have e : printB l = printB (l.take (i + 1)) ++ printB (l.drop (i + 1)) := by unfold printB; rw [← List.flatMap_append, List.take_append_drop]
  rw [e, print_take h, List.length_append, List.length_append]; omega
end Go.Proofs.Qxb6500398a
