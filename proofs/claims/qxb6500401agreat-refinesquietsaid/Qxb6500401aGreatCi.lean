import Derived.Test.Qxb6500401aGreatDa
set_option linter.unusedVariables false
set_option linter.unusedSimpArgs false
namespace Go.Proofs.Qxb6500401aGreat.ChkW
open Go.Eng Go.Cnf Go.Chk

theorem t16 {n : Nat} (h : n < 4096) : n < top .u16 := Nat.lt_of_lt_of_le h (by decide)
theorem b16 {n : Nat} (h : n < 4096) : n < 2 ^ IntKind.u16.bits := Nat.lt_of_lt_of_le h (by decide)
theorem t64 {s : Nat} (h : s < 64) : 2 ^ s < top .u64 := Nat.pow_lt_pow_right (n := 64) (by omega) h
theorem two64 {s : Nat} (h : s < 64) : 2 ^ s < 18446744073709551616 := Nat.pow_lt_pow_right (n := 64) (by omega) h
theorem two12 {s : Nat} (h : s < 12) : 2 ^ s < 4096 := Nat.pow_lt_pow_right (n := 12) (by omega) h
theorem or12 {a b : Nat} (ha : a < 4096) (hb : b < 4096) : a ||| b < 4096 := Nat.or_lt_two_pow (n := 12) ha hb
theorem and12 {a b : Nat} (ha : a < 4096) : a &&& b < 4096 := Nat.lt_of_le_of_lt Nat.and_le_left ha
/-- what a sweep has done so far -/
def Chg (sl : Nat → Option (List Int)) (yes no y o s : Nat) : Prop := (y = yes ∧ o = no ∧ ∀ j, j < s → ∀ c, sl j = some c → Done (tl yes no) c) ∨ vcnt yes no < vcnt y o
theorem Chg.skip {sl : Nat → Option (List Int)} {yes no y o s : Nat} (h : Chg sl yes no y o s) (hd : ∀ c, sl s = some c → Done (tl y o) c) : Chg sl yes no y o (s + 1) := by
  rcases h with ⟨a, b, d⟩ | h
  · refine .inl ⟨a, b, fun j hj c hc => ?_⟩
    by_cases e : j = s
    · subst e; rw [← a, ← b]; exact hd c hc
    · exact d j (by omega) c hc
  · exact .inr h
theorem Chg.up {sl : Nat → Option (List Int)} {yes no y o s y' o' : Nat} (h : Chg sl yes no y o s) (hv : vcnt y o < vcnt y' o') : Chg sl yes no y' o' (s + 1) := by
  rcases h with ⟨a, b, d⟩ | h
  · subst a; subst b; exact .inr hv
  · exact .inr (by omega)
theorem tl_mono {y o y' o' : Nat} (hy : ∀ i, y.testBit i = true → y'.testBit i = true) (ho : ∀ i, o.testBit i = true → o'.testBit i = true) {l : Int} (h : tl y o l) : tl y' o' l := by
  refine ⟨h.1, ?_⟩
  have := h.2
  split
  · rename_i hp; rw [if_pos hp] at this; exact hy _ this
  · rename_i hp; rw [if_neg hp] at this; exact ho _ this
theorem tl_or_l {y o a : Nat} {l : Int} (h : tl y o l) : tl (y ||| a) o l := tl_mono (fun i hi => by rw [Nat.testBit_or, hi]; rfl) (fun _ h => h) h
theorem tl_or_r {y o a : Nat} {l : Int} (h : tl y o l) : tl y (o ||| a) l := tl_mono (fun _ h => h) (fun i hi => by rw [Nat.testBit_or, hi]; rfl) h
end Go.Proofs.Qxb6500401aGreat.ChkW
