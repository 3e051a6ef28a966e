import Derived.Test.Qxb6500401aGreatXd
set_option linter.unusedVariables false
set_option linter.unusedSimpArgs false
namespace Go.Proofs.Qxb6500401aGreat
open Go.Eng Go.Trl Go.Chk Go.Wat

theorem sd_bit {W : WC} {j : Nat} : (wo W.used (W.fresh ||| W.weak)).testBit j = (vw W j).sd := by
  rw [wo_bit, Nat.testBit_or]; simp only [Vw.sd, vw]
  generalize W.used.testBit j = x; generalize W.fresh.testBit j = y; generalize W.weak.testBit j = z
  cases x <;> cases y <;> cases z <;> rfl
theorem wo_sub {W : WC} {cl : Nat → Option (List Int)} {ls : List Int} {c : Nat} (hw : WI W cl ls c) : wo (W.fresh ||| W.weak) W.used = 0 := Nat.eq_of_testBit_eq fun j => by
  rw [wo_bit, Nat.testBit_or, Nat.zero_testBit]
  by_cases hj : j < 52
  · have hl := hw.lo j hj
    have h1 : W.fresh.testBit j = true → W.used.testBit j = true := hl.f
    have h2 : W.weak.testBit j = true → W.used.testBit j = true := hl.k
    revert h1 h2
    generalize W.used.testBit j = x; generalize W.fresh.testBit j = y; generalize W.weak.testBit j = z
    cases x <;> cases y <;> cases z <;> simp
  · have hh := hw.hi j (by omega)
    simp only [vw] at hh
    rw [hh.2.1, hh.2.2.1]; rfl
theorem and_dis {W : WC} {cl : Nat → Option (List Int)} {ls : List Int} {c : Nat} (hw : WI W cl ls c) : W.fresh &&& W.weak = 0 := Nat.eq_of_testBit_eq fun j => by
  rw [Nat.testBit_and, Nat.zero_testBit]
  by_cases hj : j < 52
  · have h1 : W.fresh.testBit j = true → W.weak.testBit j = false := (hw.lo j hj).d
    revert h1
    generalize W.fresh.testBit j = y; generalize W.weak.testBit j = z
    cases y <;> cases z <;> simp
  · have hh := hw.hi j (by omega)
    simp only [vw] at hh
    rw [hh.2.1]; rfl
theorem sd_some {W : WC} {cl : Nat → Option (List Int)} {ls : List Int} {c j : Nat} (hw : WI W cl ls c) (hj : j < 52) (h : (vw W j).sd = true) : ∃ cc, cl j = some cc := by
  have hu : (vw W j).u = true := by unfold Vw.sd at h; simp only [Bool.and_eq_true] at h; exact h.1.1
  rw [(hw.lo j hj).u] at hu
  exact Option.isSome_iff_exists.1 hu

theorem st_yes {st x i j : Nat} (h : st.testBit j = (decide (j < i) && x.testBit j)) (hx : x.testBit i = true) : (st.testBit j || decide (i = j)) = (decide (j < i + 1) && x.testBit j) := by
  rw [h]
  by_cases e : i = j
  · subst e; rw [hx]; simp
  · by_cases e2 : j < i
    · simp [e, e2, show j < i + 1 by omega]
    · simp [e, e2, show ¬ j < i + 1 by omega]
theorem st_no {st x i j : Nat} (h : st.testBit j = (decide (j < i) && x.testBit j)) (hx : x.testBit i = false) : st.testBit j = (decide (j < i + 1) && x.testBit j) := by
  rw [h]
  by_cases e : i = j
  · subst e; rw [hx]; simp
  · by_cases e2 : j < i
    · simp [e2, show j < i + 1 by omega]
    · simp [e2, show ¬ j < i + 1 by omega]
end Go.Proofs.Qxb6500401aGreat
