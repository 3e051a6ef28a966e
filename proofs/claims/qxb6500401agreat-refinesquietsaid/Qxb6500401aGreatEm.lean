import Derived.Test.Qxb6500401aGreatEl
set_option linter.unusedVariables false
set_option linter.unusedSimpArgs false
namespace Go.Eng
/-- a without the bits of b -/
def wo (a b : Nat) : Nat := a ^^^ (a &&& b)
theorem wo_bit (a b i : Nat) : (wo a b).testBit i = (a.testBit i && !b.testBit i) := by
  unfold wo; rw [Nat.testBit_xor, Nat.testBit_and]; cases a.testBit i <;> cases b.testBit i <;> rfl
theorem wo_lt {a b n : Nat} (h : a < 2 ^ n) : wo a b < 2 ^ n := Nat.xor_lt_two_pow h (Nat.lt_of_le_of_lt Nat.and_le_left h)
theorem ofInt_bit {w a i : Nat} (h : a < 2 ^ w) : (BitVec.ofInt w (a : Int)).getLsbD i = a.testBit i := by
  rw [← BitVec.testBit_toNat, ofInt_nat h]
theorem andn_nat {w a b : Nat} (ha : a < 2 ^ w) (hb : b < 2 ^ w) : (BitVec.ofInt w (a : Int) &&& ~~~(BitVec.ofInt w (b : Int))).toNat = wo a b := by
  refine Nat.eq_of_testBit_eq fun i => ?_
  rw [wo_bit, BitVec.testBit_toNat, BitVec.getLsbD_and, BitVec.getLsbD_not, ofInt_bit ha, ofInt_bit hb]
  by_cases h : i < w
  · simp [h]
  · rw [Nat.testBit_lt_two_pow (x := a) (Nat.lt_of_lt_of_le ha (Nat.pow_le_pow_right (by omega) (by omega)))]; simp
section nb
variable {P : Program} {ops os : List Oper} {K : Ko} {l : Fr} {h : Heap} {d : Nat} {ty : TypeId} {pos : String} {aft : Array Edge}
theorem S_nandn {t t' : TypeId} {x y : Operand} {k : IntKind} {X Y : Int} (a b : Nat) (hs : k.signed = false) (hx : ev (E l) x = some (.int k X)) (hy : ev (E l) y = some (.int k Y)) (ex : X = a) (ey : Y = b) (ha : a < 2 ^ k.bits) (hb : b < 2 ^ k.bits)
    (hk : S P ops K os ((d, .int k ((wo a b : Nat) : Int)) :: l) h) : S P ops K (⟨some d, .binOp .andNot t x y t', ty, pos, aft, none⟩ :: os) l h := by
  subst ex ey
  refine S_bin hx hy ?_ hk
  simp only [binV, intV, if_true]
  rw [andn_nat ha hb, wrap_u hs (wo_lt ha)]
theorem S_nsub {t t' : TypeId} {x y : Operand} {k : IntKind} {X Y : Int} (a b r : Nat) (hx : ev (E l) x = some (.int k X)) (hy : ev (E l) y = some (.int k Y)) (ex : X = a) (ey : Y = b) (hr : b + r = a) (ha : a < top k)
    (hk : S P ops K os ((d, .int k (r : Int)) :: l) h) : S P ops K (⟨some d, .binOp .sub t x y t', ty, pos, aft, none⟩ :: os) l h := by
  subst ex ey
  refine S_bin hx hy ?_ hk
  simp only [binV, intV, if_true]
  rw [show ((a : Int) - b) = (r : Int) by omega, wrap_n (by omega)]
theorem not_bit {a i : Nat} (ha : a < 2 ^ 64) (hi : i < 64) : (18446744073709551615 ^^^ a).testBit i = !a.testBit i := by
  rw [Nat.testBit_xor, show 18446744073709551615 = 2 ^ 64 - 1 from rfl, Nat.testBit_two_pow_sub_one]
  simp [hi]
theorem S_nnot64 {t : TypeId} {x : Operand} {X : Int} (a : Nat) (hx : ev (E l) x = some (.int .u64 X)) (ex : X = a) (ha : a < 18446744073709551616)
    (hk : S P ops K os ((d, .int .u64 ((18446744073709551615 ^^^ a : Nat) : Int)) :: l) h) : S P ops K (⟨some d, .unOp .xor t x, ty, pos, aft, none⟩ :: os) l h := by
  subst ex
  refine S_un hx ?_ hk
  have e : unV .xor (.int .u64 (a : Int)) = some (.int .u64 (IntKind.u64.wrap (((BitVec.ofInt 64 ((18446744073709551615 : Nat) : Int) ^^^ BitVec.ofInt 64 (a : Int)).toNat : Nat) : Int))) := rfl
  rw [e, BitVec.toNat_xor, ofInt_nat (by decide), ofInt_nat ha]
  have hw : IntKind.u64.wrap ((18446744073709551615 ^^^ a : Nat) : Int) = ((18446744073709551615 ^^^ a : Nat) : Int) := wrap_u rfl (Nat.xor_lt_two_pow (n := 64) (by decide) ha)
  rw [hw]
end nb
end Go.Eng
