import Derived.Test.Qxb6500401aGreatTb
import Derived.Test.Qxb6500401aGreatCh
import Derived.Test.Qxb6500401aGreatLe
import Derived.Test.Qxb6500401aGreatEl
set_option linter.unusedVariables false
set_option linter.unusedSimpArgs false
namespace Go.Proofs.Qxb6500401aGreat.ChkW
open Go.Eng Go.Cnf Go.Chk

structure CK where
  pos : Nat → Nat
  neg : Nat → Nat
  used : Nat
  emp : Nat
def ccell (X : Nat) (Q : CK) (j : Nat) : Value := if j = 0 then .pointer (some ⟨X, 0, none⟩) else if j < 65 then .int .u16 (Q.pos (j - 1) : Int) else if j < 129 then .int .u16 (Q.neg (j - 65) : Int) else if j = 129 then .int .u64 (Q.used : Int) else .int .i64 (Q.emp : Int)
def upn (f : Nat → Nat) (v : Nat) (x : Nat) : Nat → Nat := fun u => if u = v then x else f u
theorem upn_self (f : Nat → Nat) (v x : Nat) : upn f v x v = x := by simp [upn]
theorem upn_ne {f : Nat → Nat} {u v x : Nat} (h : u ≠ v) : upn f v x u = f u := by simp [upn, h]
abbrev KB (h : Heap) (C X : Nat) (Q : CK) : Prop := B h C (arr 131 (ccell X Q)) 0
section kl
variable {h : Heap} {C X : Nat} {Q : CK}
theorem klP (hB : KB h C X Q) : cellH h ⟨C, 0, none⟩ = some (.pointer (some ⟨X, 0, none⟩)) := by rw [hB.cellA (by omega)]; simp [ccell]
theorem klPos (hB : KB h C X Q) (i : Nat) (hi : i < 64) : cellH h ⟨C, 1 + i, none⟩ = some (.int .u16 (Q.pos i : Int)) := by
  rw [hB.cellA (by omega)]; unfold ccell; rw [if_neg (by omega), if_pos (by omega), show 1 + i - 1 = i by omega]
theorem klNeg (hB : KB h C X Q) (i : Nat) (hi : i < 64) : cellH h ⟨C, 65 + i, none⟩ = some (.int .u16 (Q.neg i : Int)) := by
  rw [hB.cellA (by omega)]; unfold ccell; rw [if_neg (by omega), if_neg (by omega), if_pos (by omega), show 65 + i - 65 = i by omega]
theorem klUsed (hB : KB h C X Q) : cellH h ⟨C, 129, none⟩ = some (.int .u64 (Q.used : Int)) := by rw [hB.cellA (by omega)]; simp [ccell]
theorem klEmp (hB : KB h C X Q) : cellH h ⟨C, 130, none⟩ = some (.int .i64 (Q.emp : Int)) := by rw [hB.cellA (by omega)]; simp [ccell]
theorem kok (hB : KB h C X Q) (j : Nat) (hj : j < 131) : okPut h ⟨C, j, none⟩ = true := hB.okA hj
theorem ksPos (hB : KB h C X Q) (i x : Nat) (hi : i < 64) : KB (putH h ⟨C, 1 + i, none⟩ (.int .u16 (x : Int))) C X { Q with pos := upn Q.pos i x } :=
  (hB.putA (1 + i) _).cong (arr_ext fun j hj => by
    by_cases e : j = 1 + i
    · subst e; simp only [ccell, upn, if_true, show 1 + i - 1 = i by omega]; rw [if_neg (by omega), if_pos (by omega)]
    · rw [if_neg e]; unfold ccell upn; simp only []; repeat' split
      all_goals first | rfl | (exfalso; omega))
theorem ksNeg (hB : KB h C X Q) (i x : Nat) (hi : i < 64) : KB (putH h ⟨C, 65 + i, none⟩ (.int .u16 (x : Int))) C X { Q with neg := upn Q.neg i x } :=
  (hB.putA (65 + i) _).cong (arr_ext fun j hj => by
    by_cases e : j = 65 + i
    · subst e; simp only [ccell, upn, if_true, show 65 + i - 65 = i by omega]; rw [if_neg (by omega), if_neg (by omega), if_pos (by omega)]
    · rw [if_neg e]; unfold ccell upn; simp only []; repeat' split
      all_goals first | rfl | (exfalso; omega))
theorem ksUsed (hB : KB h C X Q) (x : Nat) : KB (putH h ⟨C, 129, none⟩ (.int .u64 (x : Int))) C X { Q with used := x } :=
  (hB.putA 129 _).cong (arr_ext fun j hj => by
    by_cases e : j = 129
    · subst e; simp [ccell]
    · rw [if_neg e]; unfold ccell; simp only []; repeat' split
      all_goals first | rfl | (exfalso; omega))
theorem ksEmp (hB : KB h C X Q) (x : Nat) : KB (putH h ⟨C, 130, none⟩ (.int .i64 (x : Int))) C X { Q with emp := x } :=
  (hB.putA 130 _).cong (arr_ext fun j hj => by
    by_cases e : j = 130
    · subst e; simp [ccell]
    · rw [if_neg e]; unfold ccell; simp only []; repeat' split
      all_goals first | rfl | (exfalso; omega))
end kl
/-- the store as slots -/
structure Sl (Q : CK) (sl : Nat → Option (List Int)) : Prop where
  no : ∀ i, i < 64 → sl i = none → Q.pos i = 0 ∧ Q.neg i = 0 ∧ Q.used.testBit i = false
  yes : ∀ i, i < 64 → ∀ c, sl i = some c → Nrm c ∧ Q.pos i = pM c ∧ Q.neg i = nM c ∧ Q.used.testBit i = true
  lt : Q.used < 18446744073709551616
  em : Q.emp = ecnt (rowsS sl 64)
theorem Sl.free {Q : CK} {sl : Nat → Option (List Int)} (h : Sl Q sl) {i : Nat} (hi : i < 64) : (Q.used &&& 2 ^ i = 0) ↔ sl i = none := by
  rw [and_bit]
  cases e : sl i with
  | none => simp [(h.no i hi e).2.2]
  | some c => simp [(h.yes i hi c e).2.2.2]
theorem Sl.b16 {Q : CK} {sl : Nat → Option (List Int)} (h : Sl Q sl) {i : Nat} (hi : i < 64) : Q.pos i < 4096 ∧ Q.neg i < 4096 := by
  cases e : sl i with
  | none => have := h.no i hi e; omega
  | some c => have := h.yes i hi c e; have := pM_lt this.1.1; have := nM_lt (h.yes i hi c e).1.1; omega
theorem Sl.nrm {Q : CK} {sl : Nat → Option (List Int)} (h : Sl Q sl) : ∀ c ∈ rowsS sl 64, Nrm c := fun c hc => by
  obtain ⟨i, hi, e⟩ := mem_rows.1 hc; exact (h.yes i hi c e).1
theorem or_bit (a i j : Nat) : (a ||| 2 ^ i).testBit j = (a.testBit j || decide (i = j)) := by rw [Nat.testBit_or, two_bit]
theorem Sl.put {Q : CK} {sl : Nat → Option (List Int)} (h : Sl Q sl) {s : Nat} (hs : s < 64) (he : sl s = none) {c : List Int} (hc : Nrm c) : Sl ⟨upn Q.pos s (pM c), upn Q.neg s (nM c), Q.used ||| 2 ^ s, Q.emp + if c = [] then 1 else 0⟩ (ups sl s (some c)) := by
  refine ⟨fun i hi e => ?_, fun i hi d e => ?_, ?_, ?_⟩
  · have hne : i ≠ s := fun x => by subst x; simp [ups] at e
    simp only [ups, hne, if_false] at e
    have := h.no i hi e
    simp only [upn_ne hne, or_bit, this.1, this.2.1, this.2.2, true_and]; simp; omega
  · by_cases hne : i = s
    · subst hne; simp only [ups, if_true, Option.some.injEq] at e; subst e
      exact ⟨hc, upn_self _ _ _, upn_self _ _ _, by rw [or_bit]; simp⟩
    · simp only [ups, hne, if_false] at e
      have := h.yes i hi d e
      exact ⟨this.1, by simp only [upn_ne hne]; exact this.2.1, by simp only [upn_ne hne]; exact this.2.2.1, by rw [or_bit, this.2.2.2]; rfl⟩
  · exact Nat.or_lt_two_pow (n := 64) h.lt (Nat.pow_lt_pow_right (by omega) hs)
  · simp only []; rw [ecnt_perm (rows_put (c := c) he 64 hs), ecnt_snoc, ← h.em]
theorem Sl.drop {Q : CK} {sl : Nat → Option (List Int)} (h : Sl Q sl) {s : Nat} (hs : s < 64) {c : List Int} (he : sl s = some c) : Sl ⟨upn Q.pos s 0, upn Q.neg s 0, wo Q.used (2 ^ s), Q.emp - if c = [] then 1 else 0⟩ (ups sl s none) := by
  have wb : ∀ i, (wo Q.used (2 ^ s)).testBit i = (Q.used.testBit i && !decide (s = i)) := fun i => by rw [wo_bit, two_bit]
  refine ⟨fun i hi e => ?_, fun i hi d e => ?_, ?_, ?_⟩
  · by_cases hne : i = s
    · subst hne; exact ⟨upn_self _ _ _, upn_self _ _ _, by rw [wb]; simp⟩
    · simp only [ups, hne, if_false] at e
      have := h.no i hi e
      exact ⟨by simp only [upn_ne hne]; exact this.1, by simp only [upn_ne hne]; exact this.2.1, by rw [wb, this.2.2]; rfl⟩
  · have hne : i ≠ s := fun x => by subst x; simp [ups] at e
    simp only [ups, hne, if_false] at e
    have := h.yes i hi d e
    exact ⟨this.1, by simp only [upn_ne hne]; exact this.2.1, by simp only [upn_ne hne]; exact this.2.2.1, by rw [wb, this.2.2.2]; simp; omega⟩
  · exact wo_lt (n := 64) h.lt
  · have := ecnt_perm (rows_drop he 64 hs)
    rw [ecnt_snoc] at this
    simp only []; rw [h.em]; omega
/-- the checker: the store is sl -/
def KS (h : Heap) (C X : Nat) (sl : Nat → Option (List Int)) : Prop := ∃ Q, KB h C X Q ∧ Sl Q sl
theorem KS.ext {h h' : Heap} {C X : Nat} {sl : Nat → Option (List Int)} {S : Nat → Prop} (k : KS h C X sl) (he : Ext S h h') (hs : ¬ S C) : KS h' C X sl := by
  obtain ⟨Q, a, b⟩ := k; exact ⟨Q, a.ext he hs, b⟩
theorem KS.lt {h : Heap} {C X : Nat} {sl : Nat → Option (List Int)} (k : KS h C X sl) : C < h.size := by obtain ⟨Q, a, b⟩ := k; exact a.lt
end Go.Proofs.Qxb6500401aGreat.ChkW
