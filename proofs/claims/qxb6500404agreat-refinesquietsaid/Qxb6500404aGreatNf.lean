import Derived.Test.Qxb6500404aGreatNe
set_option linter.unusedVariables false
set_option linter.unusedSimpArgs false
namespace Go.Blk
open Go.Bits Go.Huf
open Go.Eng (bAt mkS)
open Go.Proofs.Qxb6500404aGreat.HufW (lensE fndI lensE_lw fndI_ok)
/-! ### the specification decoder goes on: what each step leaves of the tape -/
structure Ad (s s' : TS) : Prop where
  N : s'.N = s.N
  n : s'.n = s.n
  p : s.p ≤ s'.p
theorem Ad.refl (s : TS) : Ad s s := ⟨rfl, rfl, Nat.le_refl _⟩
theorem Ad.trans {a b c : TS} (h1 : Ad a b) (h2 : Ad b c) : Ad a c := ⟨by rw [h2.N, h1.N], by rw [h2.n, h1.n], Nat.le_trans h1.p h2.p⟩
theorem skip_ad (s : TS) (k : Int) : Ad s (skipS s k) := by
  unfold skipS; split
  · exact ⟨rfl, rfl, by simp only []; omega⟩
  · exact Ad.refl _
theorem sync_ad {s : TS} (h : OK s) : Ad s (syncS s) := ⟨rfl, rfl, by have := h.2.1; unfold syncS; simp only []; omega⟩
theorem skip_p {s : TS} {k : Nat} (h : skipE s (k : Int) = 0) : (skipS s (k : Int)).p = s.p + k := by unfold skipS; rw [if_pos h]; rfl
theorem got_le (s : TS) : gotF s 10 ≤ 10 ∧ gotF s 10 ≤ s.n - s.p := by
  have : gotF s 10 = min 10 (s.n - s.p) := by unfold gotF; rw [if_neg (by omega)]; rfl
  omega
theorem sy_ok {s : TS} {lf : Nat → Nat} {N : Nat} (h : (syF s lf N).e = 0) : (syF s lf N).v < N ∧ 0 < lf (syF s lf N).v ∧ (syF s lf N).s = skipS s (lf (syF s lf N).v : Int) ∧ skipE s (lf (syF s lf N).v : Int) = 0 ∧ lf (syF s lf N).v ≤ 10 := by
  have hg := got_le s
  have hq : syQ s lf N = fnd lf N (peekV s 10) (gotF s 10) := fndI_ok (by omega) (peekN_lt _ _ _)
  unfold syF at h ⊢
  split at h
  · rename_i h1; exact absurd h h1
  · rename_i h1
    rw [if_neg h1]
    have h1 : (syQ s lf N).2.2 = 0 := Classical.not_not.1 h1
    simp only []
    rw [hq] at h1 ⊢
    unfold fnd at h1 ⊢
    cases e : own lf N (peekV s 10) N with
    | none => rw [e] at h1; simp at h1
    | some v =>
      rw [e] at h1
      simp only [] at h1 ⊢
      split at h1
      · rename_i h2
        rw [if_pos h2]
        obtain ⟨v1, v2⟩ := own_some e
        have v3 := v2.1
        exact ⟨v1, v2.1, rfl, by simp only []; unfold skipE; rw [if_neg (by omega), if_neg (by omega)], by simp only []; omega⟩
      · simp at h1
theorem sy_ad (s : TS) (lf : Nat → Nat) (N : Nat) : Ad s (syF s lf N).s := by
  unfold syF; split
  · exact Ad.refl _
  · exact skip_ad _ _
theorem sy_lt {s : TS} {lf : Nat → Nat} {N : Nat} (h : (syF s lf N).e = 0) : s.p < (syF s lf N).s.p := by
  obtain ⟨_, h2, h3, h4, _⟩ := sy_ok h
  rw [h3, skip_p h4]; omega
theorem tkC_ad (s : TS) (lb : Nat → Nat) (v : Nat) (out : List Int) : Ad s (tkC s lb v out).s := by
  unfold tkC
  have h1 := sy_ad s lb 8
  have h2 := h1.trans (skip_ad (syF s lb 8).s (dM (syF s lb 8).v))
  repeat' split
  all_goals first | exact h1 | exact h2
theorem tk_ad (s : TS) (la lb : Nat → Nat) (out : List Int) : Ad s (tkF s la lb out).s := by
  unfold tkF
  have h1 := sy_ad s la 265
  repeat' split
  · exact h1
  · exact h1
  · exact h1
  · exact h1.trans (tkC_ad _ _ _ _)
theorem tk_lt {s : TS} {la lb : Nat → Nat} {out : List Int} (h : (tkF s la lb out).dn = false) : s.p < (tkF s la lb out).s.p := by
  unfold tkF at h ⊢
  split at h
  · cases h
  · rename_i h1
    rw [if_neg h1]
    have h0 : (syF s la 265).e = 0 := Classical.not_not.1 fun e => h1 (.inl e)
    have h2 := sy_lt h0
    split
    · split
      · exact h2
      · exact h2
    · exact Nat.lt_of_lt_of_le h2 (tkC_ad _ _ _ _).p
theorem stoL_ad : ∀ (m : Nat) (s : TS) (out : List Int) (pl : Nat), Ad s (stoL m s out pl).s
  | 0, s, out, pl => Ad.refl _
  | m + 1, s, out, pl => by
    rw [stoL]
    split
    · exact Ad.refl _
    · split
      · exact skip_ad _ _
      · exact (skip_ad _ _).trans (stoL_ad m _ _ _)
theorem stoF_ad {s : TS} (h : OK s) (out : List Int) : Ad s (stoF s out).s := by
  unfold stoF
  split
  · exact sync_ad h
  · exact ((sync_ad h).trans (skip_ad _ _)).trans (stoL_ad _ _ _ _)
theorem lnF_ad : ∀ (f : Nat) (s : TS) (l : List Nat), Ad s (lnF f s l).s
  | 0, s, l => Ad.refl _
  | f + 1, s, l => by
    rw [lnF]
    have h1 := skip_ad s 4
    have h2 := h1.trans (skip_ad (skipS s 4) (mr (takeV s 4)))
    split
    · exact Ad.refl _
    · split
      · exact Ad.refl _
      · split
        · exact h1.trans (lnF_ad f _ _)
        · split
          · exact h1
          · split
            · exact h1
            · split
              · exact h2
              · split
                · exact h2
                · exact h2.trans (lnF_ad f _ _)
theorem cdF_ad (la lb : Nat → Nat) : ∀ (f : Nat) (s : TS) (out : List Int), Ad s (cdF la lb f s out).s
  | 0, s, out => Ad.refl _
  | f + 1, s, out => by
    rw [cdF]
    split
    · exact tk_ad _ _ _ _
    · exact (tk_ad _ _ _ _).trans (cdF_ad la lb f _ _)
theorem coF_ad (s : TS) (l : List Nat) (head : Nat) (out : List Int) : Ad s (coF s l head out).s := by
  unfold coF; split
  · exact Ad.refl _
  · exact cdF_ad _ _ _ _ _
theorem dyF_ad (s : TS) (out : List Int) : Ad s (dyF s out).s := by
  unfold dyF; split
  · exact lnF_ad _ _ _
  · exact (lnF_ad _ _ _).trans (coF_ad _ _ _ _)
theorem blF_ad (kd pl : Nat) {s : TS} (h : OK s) (out : List Int) : Ad s (blF kd pl s out).s := by
  unfold blF
  split
  · exact stoF_ad h _
  · split
    · exact coF_ad _ _ _ _
    · split
      · exact dyF_ad _ _
      · exact Ad.refl _
theorem take_lt {s : TS} {k : Nat} (h : k ≤ 16) : takeV s (k : Int) < 2 ^ k := by
  unfold takeV; split
  · exact peekN_lt _ _ _
  · exact Nat.two_pow_pos _
/-! ### bytes come out -/
def By (l : List Int) : Prop := ∀ x, x ∈ l → 0 ≤ x ∧ x < 256
theorem By.nil : By [] := fun x h => by cases h
theorem By.snoc {l : List Int} {x : Int} (h : By l) (h1 : 0 ≤ x) (h2 : x < 256) : By (l ++ [x]) := fun y hy => by
  rcases List.mem_append.1 hy with e | e
  · exact h y e
  · rw [List.mem_singleton.1 e]; exact ⟨h1, h2⟩
theorem By.at {l : List Int} (h : By l) (i : Nat) : 0 ≤ l.getD i 0 ∧ l.getD i 0 < 256 := by
  rw [List.getD_eq_getElem?_getD]
  by_cases hi : i < l.length
  · rw [List.getElem?_eq_getElem hi]; exact h _ (List.getElem_mem hi)
  · rw [List.getElem?_eq_none (by omega)]; exact ⟨by simp, by simp⟩
/-! ### one round of the list of lengths -/
theorem lnF_end {f : Nat} {s : TS} {l : List Nat} (h : 273 ≤ l.length) : lnF f s l = ⟨l, 0, 0, s⟩ := by
  cases f with
  | zero => rfl
  | succ f => rw [lnF, if_pos h]
end Go.Blk
