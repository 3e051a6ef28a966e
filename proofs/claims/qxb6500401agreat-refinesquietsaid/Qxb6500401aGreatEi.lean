import Derived.Test.Qxb6500401aGreatEh
set_option linter.unusedVariables false
set_option linter.unusedSimpArgs false
namespace Go.Eng
/-- append to a row of one's own, from a slice or a string -/
theorem S_appx {P : Program} {ops os : List Oper} {K : Ko} {l : Fr} {h : Heap} {d : Nat} {ty : TypeId} {pos : String} {aft : Array Edge} {args : Array Operand} {sT xT e : TypeId} {lo k cap n size bytes : Nat} {x : Value} {a : Option Addr} {z : Array Value} {xs vs : List Value}
    (hz : elI P sT = some (e, size, bytes, z)) (hni : ∀ k, P.underlying xT ≠ some (.int k)) (hus : (P.underlying xT).isSome = true) (ha : evs (E l) args.toList = some [.slice a k cap, x]) (hlx : lenV x = some n)
    (hzs : z.size = size) (ho : OwnR lo h a k cap xs e size) (hlo : lo ≤ h.size) (hsrc : srcV h size n x = some vs) (hvl : vs.length = n * size) (hb : (k + n) * bytes ≤ 1099511627776) (hb2 : bytes ≤ 4096) (hb3 : 1 ≤ bytes) (hv : vs.all (·.oneCell') = true)
    (hk : ∀ a' cap' h', OwnR lo h' a' (k + n) cap' (xs ++ vs) e size → Ext (fun b => blkA a = some b) h h' → (blkA a' = blkA a ∨ blkA a' = some h.size) → S P ops K os ((d, .slice a' (k + n) cap') :: l) h') : S P ops K (⟨some d, .call ⟨.builtin .append, args, #[sT, xT]⟩, ty, pos, aft, none⟩ :: os) l h := by
  have hlen := ho.len
  by_cases hle : k + n ≤ cap
  · rcases ho with ⟨rfl, rfl, rfl, rfl⟩ | ⟨b, cs, rfl, h2, h3, h4, h5, h6, h7⟩
    · have hn0 : n = 0 := by omega
      subst hn0
      have : vs = [] := List.eq_nil_of_length_eq_zero (by simpa using hvl)
      subst this
      refine S_app ha ⟨e, size, bytes, z, none, 0, 0, 0, [], hz, rfl, hlx, hni, hus, hsrc, .inl ⟨by omega, h, rfl, ?_⟩⟩
      exact hk none 0 h (.inl ⟨rfl, rfl, rfl, rfl⟩) (Ext.refl _ _) (.inl rfl)
    · have hfit : k * size + vs.length ≤ cs.size := by
        rw [h4, hvl, ← Nat.add_mul]; exact Nat.mul_le_mul_right _ hle
      have hst := storeCs_puts (b := b) (o := k * size) vs 0 h (by intro j hj; simpa using h3.ok (i := k * size + j) (by omega)) (by simpa using hv)
      refine S_app ha ⟨e, size, bytes, z, some ⟨b, 0, none⟩, k, cap, n, vs, hz, rfl, hlx, hni, hus, hsrc, .inl ⟨hle, _, by simp only [add_mk, Nat.zero_add]; simpa using hst, ?_⟩⟩
      obtain ⟨cs', e2, e3, e4, e5, e6, e7⟩ := putsH_eq vs (k * size) h cs h3 hfit
      refine hk _ cap _ (.inr ⟨b, cs', rfl, h2, e2, by rw [e3]; exact h4, hle, by rw [List.length_append, h6, hvl, Nat.add_mul], fun j hj => ?_⟩) ⟨by omega, fun y hy hne => e7 y fun e => hne (by rw [e]; rfl)⟩ (.inl rfl)
      by_cases hjx : j < xs.length
      · rw [e5 j (.inl (by omega)), h7 j hjx, List.getElem?_append_left hjx]
      · rw [List.getElem?_append_right (by omega)]
        have := e4 (j - xs.length) (by rw [List.length_append] at hj; omega)
        rw [← this]; congr 1; omega
  · have hkb : k + n ≤ 1099511627776 := Nat.le_trans (Nat.le_mul_of_pos_right _ hb3) hb
    have hnc := nextcap_le2 (k + n) cap (by omega)
    refine S_app ha ⟨e, size, bytes, z, a, k, cap, n, vs, hz, rfl, hlx, hni, hus, hsrc, .inr ⟨by omega, by omega, ?_, xs, ho.cells, fun cap' c1 c2 => ?_⟩⟩
    · calc Builtin.nextslicecap (k + n) cap * bytes ≤ (4 * (k + n) + 4000) * bytes := Nat.mul_le_mul_right _ (by omega)
        _ = 4 * ((k + n) * bytes) + 4000 * bytes := by rw [Nat.add_mul, Nat.mul_assoc]
        _ ≤ 281474976710656 := by omega
    · refine hk _ cap' _ (.inr ⟨h.size, _, rfl, hlo, B.new _ _ _, ?_, c1, by rw [List.length_append, hlen.1, hvl, Nat.add_mul], fun j hj => ?_⟩) (Ext.push _ _ _) (.inr rfl)
      · rw [Array.size_append, mkZ_size, hzs]
        simp only [List.size_toArray, List.length_append, hlen.1, hvl]
        rw [← Nat.add_mul, ← Nat.add_mul]
        congr 1
        omega
      · rw [Array.getElem?_append_left (by simpa using hj)]
        simp

section ubits
variable {P : Program} {ops os : List Oper} {K : Ko} {l : Fr} {h : Heap} {d : Nat} {ty : TypeId} {pos : String} {aft : Array Edge}
theorem S_neg {t : TypeId} {x : Operand} {n : Int} (hx : ev (E l) x = some (.int .i64 n)) (h0 : -9223372036854775808 ≤ -n) (h1 : -n < 9223372036854775808) (hk : S P ops K os ((d, .int .i64 (-n)) :: l) h) : S P ops K (⟨some d, .unOp .neg t x, ty, pos, aft, none⟩ :: os) l h :=
  S_un hx (by simp only [unV]; rw [Int.zero_sub, wrap_i64 h0 h1]) hk
theorem wrap_u {k : IntKind} (hs : k.signed = false) {n : Nat} (hn : n < 2 ^ k.bits) : k.wrap (n : Int) = n := by
  cases k <;> first | (cases hs; done) | skip
  all_goals (simp only [IntKind.wrap, IntKind.signed, IntKind.bits] at *; simp at *; omega)
theorem ofInt_nat {w n : Nat} (h : n < 2 ^ w) : (BitVec.ofInt w (n : Int)).toNat = n := by
  rw [BitVec.toNat_ofInt, ← Int.natCast_emod, Int.toNat_natCast, Nat.mod_eq_of_lt h]
theorem uand {k : IntKind} (hs : k.signed = false) {a b : Nat} (ha : a < 2 ^ k.bits) (hb : b < 2 ^ k.bits) : k.wrap ((BitVec.ofInt k.bits (a : Int) &&& BitVec.ofInt k.bits (b : Int)).toNat : Nat) = ((a &&& b : Nat) : Int) := by
  rw [BitVec.toNat_and, ofInt_nat ha, ofInt_nat hb]; exact wrap_u hs (Nat.lt_of_le_of_lt Nat.and_le_left ha)
theorem uor {k : IntKind} (hs : k.signed = false) {a b : Nat} (ha : a < 2 ^ k.bits) (hb : b < 2 ^ k.bits) : k.wrap ((BitVec.ofInt k.bits (a : Int) ||| BitVec.ofInt k.bits (b : Int)).toNat : Nat) = ((a ||| b : Nat) : Int) := by
  rw [BitVec.toNat_or, ofInt_nat ha, ofInt_nat hb]; exact wrap_u hs (Nat.or_lt_two_pow ha hb)
theorem uxor {k : IntKind} (hs : k.signed = false) {a b : Nat} (ha : a < 2 ^ k.bits) (hb : b < 2 ^ k.bits) : k.wrap ((BitVec.ofInt k.bits (a : Int) ^^^ BitVec.ofInt k.bits (b : Int)).toNat : Nat) = ((a ^^^ b : Nat) : Int) := by
  rw [BitVec.toNat_xor, ofInt_nat ha, ofInt_nat hb]; exact wrap_u hs (Nat.xor_lt_two_pow ha hb)
theorem S_uand {t t' : TypeId} {x y : Operand} {k : IntKind} {a b : Nat} (hs : k.signed = false) (hx : ev (E l) x = some (.int k (a : Int))) (hy : ev (E l) y = some (.int k (b : Int))) (ha : a < 2 ^ k.bits) (hb : b < 2 ^ k.bits)
    (hk : S P ops K os ((d, .int k ((a &&& b : Nat) : Int)) :: l) h) : S P ops K (⟨some d, .binOp .and t x y t', ty, pos, aft, none⟩ :: os) l h :=
  S_bin hx hy (by simp only [binV, intV, if_true, uand hs ha hb]) hk
theorem S_uor {t t' : TypeId} {x y : Operand} {k : IntKind} {a b : Nat} (hs : k.signed = false) (hx : ev (E l) x = some (.int k (a : Int))) (hy : ev (E l) y = some (.int k (b : Int))) (ha : a < 2 ^ k.bits) (hb : b < 2 ^ k.bits)
    (hk : S P ops K os ((d, .int k ((a ||| b : Nat) : Int)) :: l) h) : S P ops K (⟨some d, .binOp .or t x y t', ty, pos, aft, none⟩ :: os) l h :=
  S_bin hx hy (by simp only [binV, intV, if_true, uor hs ha hb]) hk
theorem S_uxor {t t' : TypeId} {x y : Operand} {k : IntKind} {a b : Nat} (hs : k.signed = false) (hx : ev (E l) x = some (.int k (a : Int))) (hy : ev (E l) y = some (.int k (b : Int))) (ha : a < 2 ^ k.bits) (hb : b < 2 ^ k.bits)
    (hk : S P ops K os ((d, .int k ((a ^^^ b : Nat) : Int)) :: l) h) : S P ops K (⟨some d, .binOp .xor t x y t', ty, pos, aft, none⟩ :: os) l h :=
  S_bin hx hy (by simp only [binV, intV, if_true, uxor hs ha hb]) hk
/-- 1 shifted left by less than the width -/
theorem S_bit {t t' : TypeId} {x y : Operand} {k k' : IntKind} {n : Nat} (hs : k.signed = false) (hx : ev (E l) x = some (.int k 1)) (hy : ev (E l) y = some (.int k' (n : Int))) (hn : n < k.bits)
    (hk : S P ops K os ((d, .int k ((2 ^ n : Nat) : Int)) :: l) h) : S P ops K (⟨some d, .binOp .shl t x y t', ty, pos, aft, none⟩ :: os) l h := by
  refine S_bin hx hy ?_ hk
  simp only [binV, intV]
  rw [if_pos (Int.natCast_nonneg n), Int.toNat_natCast, Nat.min_eq_left (Nat.le_of_lt hn), Int.one_mul]
  have e : ((2 : Int) ^ n) = ((2 ^ n : Nat) : Int) := by simp
  rw [e, wrap_u hs (Nat.pow_lt_pow_right (by omega) hn)]
theorem S_ushr {t t' : TypeId} {x y : Operand} {k k' : IntKind} {a n : Nat} (hx : ev (E l) x = some (.int k (a : Int))) (hy : ev (E l) y = some (.int k' (n : Int))) (hn : n < k.bits)
    (hk : S P ops K os ((d, .int k ((a / 2 ^ n : Nat) : Int)) :: l) h) : S P ops K (⟨some d, .binOp .shr t x y t', ty, pos, aft, none⟩ :: os) l h := by
  refine S_bin hx hy ?_ hk
  simp only [binV, intV]
  rw [if_pos (Int.natCast_nonneg n), Int.toNat_natCast, Nat.min_eq_left (Nat.le_of_lt hn)]
  have e : ((2 : Int) ^ n) = ((2 ^ n : Nat) : Int) := by simp
  rw [e, Int.fdiv_eq_ediv_of_nonneg _ (Int.natCast_nonneg _)]; rfl
theorem S_cvn {s t : TypeId} {x : Operand} {k k' : IntKind} {n : Nat} (hs : (P.underlying s).isSome = true) (ht : inK P t = some k) (hx : ev (E l) x = some (.int k' (n : Int))) (hu : k.signed = false) (hn : n < 2 ^ k.bits) (hk : S P ops K os ((d, .int k (n : Int)) :: l) h) : S P ops K (⟨some d, .convert s t x, ty, pos, aft, none⟩ :: os) l h :=
  S_cv hs ht hx (by rw [wrap_u hu hn]; exact hk)
theorem and_bit (a v : Nat) : (a &&& 2 ^ v = 0) ↔ a.testBit v = false := by
  constructor
  · intro h; have := congrArg (fun x => x.testBit v) h; simpa [Nat.testBit_and, Nat.testBit_two_pow] using this
  · intro h; refine Nat.eq_of_testBit_eq fun i => ?_
    rw [Nat.testBit_and, Nat.testBit_two_pow, Nat.zero_testBit]
    by_cases e : v = i
    · subst e; simp [h]
    · simp [e]
end ubits
end Go.Eng
