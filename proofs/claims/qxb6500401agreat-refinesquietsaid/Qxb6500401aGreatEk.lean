import Derived.Test.Qxb6500401aGreatEj
set_option linter.unusedVariables false
set_option linter.unusedSimpArgs false
namespace Go.Eng
/-- the first number that kind k does not hold -/
def top (k : IntKind) : Nat := if k.signed then 2 ^ (k.bits - 1) else 2 ^ k.bits
theorem wrap_n {k : IntKind} {n : Nat} (hn : n < top k) : k.wrap (n : Int) = n := by
  cases k <;> (simp only [top, IntKind.wrap, IntKind.signed, IntKind.bits] at *; simp at *; omega)
theorem top_le (k : IntKind) : top k ≤ 2 ^ k.bits := by
  unfold top; split
  · exact Nat.pow_le_pow_right (by omega) (by omega)
  · exact Nat.le_refl _
theorem top_pow (k : IntKind) : ∃ j, top k = 2 ^ j ∧ j ≤ k.bits := by
  unfold top; split
  · exact ⟨_, rfl, by omega⟩
  · exact ⟨_, rfl, by omega⟩
section nbits
variable {P : Program} {ops os : List Oper} {K : Ko} {l : Fr} {h : Heap} {d : Nat} {ty : TypeId} {pos : String} {aft : Array Edge}
theorem S_nand {t t' : TypeId} {x y : Operand} {k : IntKind} {X Y : Int} (a b r : Nat) (hx : ev (E l) x = some (.int k X)) (hy : ev (E l) y = some (.int k Y)) (ex : X = a) (ey : Y = b) (hr : a &&& b = r) (ha : a < top k) (hb : b < top k)
    (hk : S P ops K os ((d, .int k (r : Int)) :: l) h) : S P ops K (⟨some d, .binOp .and t x y t', ty, pos, aft, none⟩ :: os) l h := by
  subst ex ey hr
  refine S_bin hx hy ?_ hk
  simp only [binV, intV, if_true]
  rw [BitVec.toNat_and, ofInt_nat (Nat.lt_of_lt_of_le ha (top_le k)), ofInt_nat (Nat.lt_of_lt_of_le hb (top_le k)), wrap_n (Nat.lt_of_le_of_lt Nat.and_le_left ha)]
theorem S_nor {t t' : TypeId} {x y : Operand} {k : IntKind} {X Y : Int} (a b r : Nat) (hx : ev (E l) x = some (.int k X)) (hy : ev (E l) y = some (.int k Y)) (ex : X = a) (ey : Y = b) (hr : a ||| b = r) (ha : a < top k) (hb : b < top k)
    (hk : S P ops K os ((d, .int k (r : Int)) :: l) h) : S P ops K (⟨some d, .binOp .or t x y t', ty, pos, aft, none⟩ :: os) l h := by
  subst ex ey hr
  refine S_bin hx hy ?_ hk
  obtain ⟨j, hj, hl⟩ := top_pow k
  simp only [binV, intV, if_true]
  rw [BitVec.toNat_or, ofInt_nat (Nat.lt_of_lt_of_le ha (top_le k)), ofInt_nat (Nat.lt_of_lt_of_le hb (top_le k)), wrap_n (by rw [hj]; exact Nat.or_lt_two_pow (hj ▸ ha) (hj ▸ hb))]
theorem S_nxor {t t' : TypeId} {x y : Operand} {k : IntKind} {X Y : Int} (a b r : Nat) (hx : ev (E l) x = some (.int k X)) (hy : ev (E l) y = some (.int k Y)) (ex : X = a) (ey : Y = b) (hr : a ^^^ b = r) (ha : a < top k) (hb : b < top k)
    (hk : S P ops K os ((d, .int k (r : Int)) :: l) h) : S P ops K (⟨some d, .binOp .xor t x y t', ty, pos, aft, none⟩ :: os) l h := by
  subst ex ey hr
  refine S_bin hx hy ?_ hk
  obtain ⟨j, hj, hl⟩ := top_pow k
  simp only [binV, intV, if_true]
  rw [BitVec.toNat_xor, ofInt_nat (Nat.lt_of_lt_of_le ha (top_le k)), ofInt_nat (Nat.lt_of_lt_of_le hb (top_le k)), wrap_n (by rw [hj]; exact Nat.xor_lt_two_pow (hj ▸ ha) (hj ▸ hb))]
theorem S_nshl {t t' : TypeId} {x y : Operand} {k k' : IntKind} {X Y : Int} (a n r : Nat) (hx : ev (E l) x = some (.int k X)) (hy : ev (E l) y = some (.int k' Y)) (ex : X = a) (ey : Y = n) (hr : a * 2 ^ n = r) (hn : n ≤ k.bits) (ht : r < top k)
    (hk : S P ops K os ((d, .int k (r : Int)) :: l) h) : S P ops K (⟨some d, .binOp .shl t x y t', ty, pos, aft, none⟩ :: os) l h := by
  subst ex ey hr
  refine S_bin hx hy ?_ hk
  simp only [binV, intV]
  rw [if_pos (Int.natCast_nonneg n), Int.toNat_natCast, Nat.min_eq_left hn]
  have e : ((a : Int) * (2 : Int) ^ n) = ((a * 2 ^ n : Nat) : Int) := by simp
  rw [e, wrap_n ht]
/-- the same, cut to the kind -/
theorem S_nshlu {t t' : TypeId} {x y : Operand} {k k' : IntKind} {X Y : Int} (a n r : Nat) (hs : k.signed = false) (hx : ev (E l) x = some (.int k X)) (hy : ev (E l) y = some (.int k' Y)) (ex : X = a) (ey : Y = n) (hr : a * 2 ^ n % 2 ^ k.bits = r) (hn : n ≤ k.bits)
    (hk : S P ops K os ((d, .int k (r : Int)) :: l) h) : S P ops K (⟨some d, .binOp .shl t x y t', ty, pos, aft, none⟩ :: os) l h := by
  subst ex ey hr
  refine S_bin hx hy ?_ hk
  simp only [binV, intV]
  rw [if_pos (Int.natCast_nonneg n), Int.toNat_natCast, Nat.min_eq_left hn]
  have e : ((a : Int) * (2 : Int) ^ n) = ((a * 2 ^ n : Nat) : Int) := by simp
  rw [e]
  simp [IntKind.wrap, hs]
theorem S_nshr {t t' : TypeId} {x y : Operand} {k k' : IntKind} {X Y : Int} (a n r : Nat) (hx : ev (E l) x = some (.int k X)) (hy : ev (E l) y = some (.int k' Y)) (ex : X = a) (ey : Y = n) (hr : a / 2 ^ n = r) (hn : n ≤ k.bits)
    (hk : S P ops K os ((d, .int k (r : Int)) :: l) h) : S P ops K (⟨some d, .binOp .shr t x y t', ty, pos, aft, none⟩ :: os) l h := by
  subst ex ey hr
  refine S_bin hx hy ?_ hk
  simp only [binV, intV]
  rw [if_pos (Int.natCast_nonneg n), Int.toNat_natCast, Nat.min_eq_left hn]
  have e : ((2 : Int) ^ n) = ((2 ^ n : Nat) : Int) := by simp
  rw [e, Int.fdiv_eq_ediv_of_nonneg _ (Int.natCast_nonneg _)]; rfl
theorem S_ncv {s t : TypeId} {x : Operand} {k k' : IntKind} {X : Int} (a r : Nat) (hs : (P.underlying s).isSome = true) (ht : inK P t = some k) (hx : ev (E l) x = some (.int k' X)) (ex : X = a) (hr : a % 2 ^ k.bits = r) (hu : k.signed = false ∨ a < top k)
    (hk : S P ops K os ((d, .int k (r : Int)) :: l) h) : S P ops K (⟨some d, .convert s t x, ty, pos, aft, none⟩ :: os) l h := by
  subst ex hr
  refine S_cv hs ht hx ?_
  rcases hu with hu | hu
  · have e : k.wrap (a : Int) = ((a % 2 ^ k.bits : Nat) : Int) := by simp [IntKind.wrap, hu]
    rw [e]; exact hk
  · rw [Nat.mod_eq_of_lt (Nat.lt_of_lt_of_le hu (top_le k))] at hk
    rw [wrap_n hu]; exact hk
theorem andn7 {a : Nat} (ha : a < 2 ^ 63) : (BitVec.ofInt 64 (a : Int) &&& ~~~(BitVec.ofInt 64 7)).toNat = a / 8 * 8 := by
  have e7 : ~~~(BitVec.ofInt 64 7) = BitVec.ofNat 64 (2 ^ 64 - 8) := by decide
  rw [e7, BitVec.toNat_and, ofInt_nat (by omega), BitVec.toNat_ofNat, Nat.mod_eq_of_lt (by decide)]
  refine Nat.eq_of_testBit_eq fun i => ?_
  rw [Nat.testBit_and, show a / 8 * 8 = (a >>> 3) <<< 3 by rw [Nat.shiftRight_eq_div_pow, Nat.shiftLeft_eq], Nat.testBit_shiftLeft, Nat.testBit_shiftRight]
  by_cases h3 : 3 ≤ i
  · rw [show 3 + (i - 3) = i by omega]
    by_cases h6 : i < 64
    · have : (2 ^ 64 - 8).testBit i = true := by
        have : ∀ j : Fin 61, (2 ^ 64 - 8).testBit (j.val + 3) = true := by decide
        have := this ⟨i - 3, by omega⟩
        simpa [show i - 3 + 3 = i by omega] using this
      simp [this, h3]
    · rw [Nat.testBit_lt_two_pow (x := a) (Nat.lt_of_lt_of_le ha (Nat.pow_le_pow_right (by omega) (by omega)))]
      simp
  · have : (2 ^ 64 - 8).testBit i = false := by
      have hi : i = 0 ∨ i = 1 ∨ i = 2 := by omega
      rcases hi with rfl | rfl | rfl <;> decide
    simp [this, h3]
theorem S_andn7 {t t' : TypeId} {x y : Operand} {X : Int} (a : Nat) (hx : ev (E l) x = some (.int .i64 X)) (hy : ev (E l) y = some (.int .i64 7)) (ex : X = a) (ha : a < 9223372036854775808)
    (hk : S P ops K os ((d, .int .i64 ((a / 8 * 8 : Nat) : Int)) :: l) h) : S P ops K (⟨some d, .binOp .andNot t x y t', ty, pos, aft, none⟩ :: os) l h := by
  subst ex
  refine S_bin hx hy ?_ hk
  have hw : IntKind.i64.wrap ((a / 8 * 8 : Nat) : Int) = ((a / 8 * 8 : Nat) : Int) := wrap_i64 (by omega) (by omega)
  have e : binV P .andNot t (.int .i64 (a : Int)) (.int .i64 7) = some (.int .i64 (IntKind.i64.wrap (((BitVec.ofInt 64 (a : Int) &&& ~~~(BitVec.ofInt 64 7)).toNat : Nat) : Int))) := rfl
  rw [e, andn7 (by omega), hw]
/-- 'x >> c' of what is not negative -/
theorem S_shrc {t t' : TypeId} {x y : Operand} {k k' : IntKind} {X : Int} (c : Nat) (p : Int) (hx : ev (E l) x = some (.int k X)) (hy : ev (E l) y = some (.int k' (c : Int))) (hp : (2 : Int) ^ c = p) (hc : c ≤ k.bits) (h0 : 0 ≤ X)
    (hk : S P ops K os ((d, .int k (X / p)) :: l) h) : S P ops K (⟨some d, .binOp .shr t x y t', ty, pos, aft, none⟩ :: os) l h := by
  subst hp
  refine S_bin hx hy ?_ hk
  simp only [binV, intV]
  rw [if_pos (Int.natCast_nonneg c), Int.toNat_natCast, Nat.min_eq_left hc, Int.fdiv_eq_ediv_of_nonneg]
  exact Int.pow_nonneg (by decide)
/-- to a kind that holds it -/
theorem S_cvN {s t : TypeId} {x : Operand} {k k' : IntKind} {X : Int} (a : Nat) (hs : (P.underlying s).isSome = true) (ht : inK P t = some k) (hx : ev (E l) x = some (.int k' X)) (ex : X = a) (hu : a < top k)
    (hk : S P ops K os ((d, .int k (a : Int)) :: l) h) : S P ops K (⟨some d, .convert s t x, ty, pos, aft, none⟩ :: os) l h := by
  subst ex
  refine S_cv hs ht hx ?_
  rw [wrap_n hu]; exact hk
theorem S_cvu {s t : TypeId} {x : Operand} {k' : IntKind} {X : Int} (hs : (P.underlying s).isSome = true) (ht : inK P t = some .u64) (hx : ev (E l) x = some (.int k' X)) (h0 : 0 ≤ X) (h1 : X < 18446744073709551616)
    (hk : S P ops K os ((d, .int .u64 X) :: l) h) : S P ops K (⟨some d, .convert s t x, ty, pos, aft, none⟩ :: os) l h := by
  refine S_cv hs ht hx ?_
  have e : IntKind.u64.wrap X = X := by simp [IntKind.wrap, IntKind.signed, IntKind.bits]; omega
  rw [e]; exact hk
theorem S_addN {t t' : TypeId} {x y : Operand} {a b : Int} (r : Nat) (hx : ev (E l) x = some (.int .i64 a)) (hy : ev (E l) y = some (.int .i64 b)) (er : a + b = r) (h1 : r < 9223372036854775808) (hk : S P ops K os ((d, .int .i64 (r : Int)) :: l) h) : S P ops K (⟨some d, .binOp .add t x y t', ty, pos, aft, none⟩ :: os) l h :=
  S_add hx hy (by omega) (by omega) (by rw [er]; exact hk)
theorem S_subN {t t' : TypeId} {x y : Operand} {a b : Int} (r : Nat) (hx : ev (E l) x = some (.int .i64 a)) (hy : ev (E l) y = some (.int .i64 b)) (er : a - b = r) (h1 : r < 9223372036854775808) (hk : S P ops K os ((d, .int .i64 (r : Int)) :: l) h) : S P ops K (⟨some d, .binOp .sub t x y t', ty, pos, aft, none⟩ :: os) l h :=
  S_sub hx hy (by omega) (by omega) (by rw [er]; exact hk)
theorem S_ixN {t : TypeId} {x i : Operand} {b len cap : Nat} {k : IntKind} {X : Int} (n : Nat) (ht : elS P t = some 1) (hx : ev (E l) x = some (.slice (some ⟨b, 0, none⟩) len cap)) (hi : ev (E l) i = some (.int k X)) (ex : X = n) (h1 : n < len)
    (hk : S P ops K os ((d, .pointer (some ⟨b, n, none⟩)) :: l) h) : S P ops K (⟨some d, .indexAddr t x i, ty, pos, aft, none⟩ :: os) l h := by
  subst ex; exact S_ixn ht hx hi h1 hk
theorem S_siN {t : TypeId} {x i : Operand} {s : ByteArray} {k : IntKind} {X : Int} (n : Nat) (ht : kd P t = 0) (hx : ev (E l) x = some (.string s)) (hi : ev (E l) i = some (.int k X)) (ex : X = n) (h1 : n < s.size)
    (hk : S P ops K os ((d, .int .u8 (bAt s n)) :: l) h) : S P ops K (⟨some d, .index t x i, ty, pos, aft, none⟩ :: os) l h := by
  subst ex; exact S_si ht hx hi (by omega) (by omega) (by simpa using hk)
/-- copy a string's bytes to a block's head -/
theorem S_copys {args : Array Operand} {dT xT : TypeId} {b' m dLen dCap : Nat} {s : ByteArray} {g : Nat → Value} {t' : TypeId}
    (hz : elS P dT = some 1) (ha : evs (E l) args.toList = some [.slice (some ⟨b', 0, none⟩) dLen dCap, .string s]) (hl : s.size ≤ dLen) (hb' : B h b' (arr m g) t') (hm : s.size ≤ m)
    (hc : ∀ h', B h' b' (arr m fun j => if j < s.size then .int .u8 (bAt s j : Int) else g j) t' → Ext (fun x => x = b') h h' → h'.size = h.size → S P ops K os ((d, .int .i64 (s.size : Nat)) :: l) h') : S P ops K (⟨some d, .call ⟨.builtin .copy, args, #[dT, xT]⟩, ty, pos, aft, none⟩ :: os) l h := by
  have hx : srcV h 1 (min s.size dLen) (.string s) = some ((List.range s.size).map fun j => Value.int .u8 (bAt s j : Int)) := by
    simp only [srcV, Nat.min_eq_left hl]
    congr 1
    apply List.ext_getElem?
    intro j
    simp only [List.getElem?_map]
    have e : (s.extract 0 s.size).data = s.data := by
      have := ByteArray.extract_zero_size (b := s)
      rw [this]
    rw [e]
    by_cases hj : j < s.size
    · have hd : j < s.data.size := hj
      rw [List.getElem?_range hj, Array.getElem?_toList, Array.getElem?_eq_getElem hd]
      simp [bAt, Array.getElem?_eq_getElem hd]
    · have hd : ¬ j < s.data.size := hj
      rw [show (List.range s.size)[j]? = none from List.getElem?_eq_none (by simpa using hj), Array.getElem?_toList, show s.data[j]? = none from Array.getElem?_eq_none (by omega)]; rfl
  obtain ⟨h', cs', e1, e2, e3, e4, e5, e6, e7⟩ := storeCs_blk (o := 0) ((List.range s.size).map fun j => Value.int .u8 (bAt s j : Int)) 0 h (arr m g) hb' (by rw [arr_size]; simpa using hm) (by intro v hv; simp only [List.mem_map] at hv; obtain ⟨_, _, rfl⟩ := hv; rfl)
  refine S_cp ha ⟨1, some ⟨b', 0, none⟩, dLen, dCap, s.size, _, h', hz, rfl, rfl, hx, e1, ?_⟩
  rw [Nat.min_eq_left hl]
  refine hc h' ?_ ⟨by omega, fun x hx hne => e7 x hne⟩ e6
  have : cs' = arr m fun j => if j < s.size then .int .u8 (bAt s j : Int) else g j := by
    apply Array.ext_getElem?
    intro j
    by_cases hj : j < m
    · rw [arr_get hj]
      by_cases hjk : j < s.size
      · have := e4 j (by simpa using hjk)
        simp only [Nat.zero_add] at this
        rw [this, if_pos hjk]
        simp [hjk]
      · rw [if_neg hjk, e5 j (.inr (by simpa using hjk)), arr_get hj]
    · rw [Array.getElem?_eq_none (by rw [e3, arr_size]; omega), Array.getElem?_eq_none (by rw [arr_size]; omega)]
  rw [← this]; exact e2
end nbits
theorem srcV_u8p {h : Heap} {b n c k : Nat} {g : Nat → Int} {t : TypeId} (hb : B h b (arr n fun j => .int .u8 (g j)) t) (hk : k ≤ n) : srcV h 1 k (.slice (some ⟨b, 0, none⟩) k c) = some (u8s ((List.range k).map g)) := by
  simp only [srcV, Nat.mul_one]
  rw [cellsH_blk (o := 0) hb k 0 (by rw [arr_size]; omega)]
  congr 1
  rw [arr_toList]
  simp only [Nat.add_zero, List.drop_zero]
  rw [← List.map_take, List.take_range, Nat.min_eq_left hk]
  simp [u8s]
end Go.Eng
