import Derived.Test.Qxb6500404aGreatEk
set_option linter.unusedVariables false
set_option linter.unusedSimpArgs false
namespace Go.Bits
open Go.Eng
/-- byte i of a tape -/
def byteN (N i : Nat) : Nat := N / 2 ^ (8 * i) % 256
theorem byteN_bit (N i k : Nat) : (byteN N i).testBit k = (decide (k < 8) && N.testBit (8 * i + k)) := by
  unfold byteN
  rw [show 256 = 2 ^ 8 from rfl, Nat.testBit_mod_two_pow, ← Nat.shiftRight_eq_div_pow, Nat.testBit_shiftRight]
theorem byteN_lt (N i : Nat) : byteN N i < 256 := Nat.mod_lt _ (by decide)
theorem byteN_zero (i : Nat) : byteN 0 i = 0 := by simp [byteN]
theorem byteN_high {N n i : Nat} (hN : N < 2 ^ n) (hi : n ≤ 8 * i) : byteN N i = 0 := by
  unfold byteN
  rw [Nat.div_eq_of_lt (Nat.lt_of_lt_of_le hN (Nat.pow_le_pow_right (by omega) hi))]
/-- the tape with v behind its n bits -/
def putN (N v n : Nat) : Nat := N ||| v * 2 ^ n
theorem mul_bit (v n k : Nat) : (v * 2 ^ n).testBit k = (decide (n ≤ k) && v.testBit (k - n)) := by
  rw [← Nat.shiftLeft_eq, Nat.testBit_shiftLeft]
theorem div_bit (v n k : Nat) : (v / 2 ^ n).testBit k = v.testBit (n + k) := by
  rw [← Nat.shiftRight_eq_div_pow, Nat.testBit_shiftRight]
theorem putN_bit (N v n k : Nat) : (putN N v n).testBit k = (N.testBit k || (decide (n ≤ k) && v.testBit (k - n))) := by
  unfold putN; rw [Nat.testBit_or, mul_bit]
theorem putN_lt {N v n m : Nat} (hN : N < 2 ^ n) (hv : v < 2 ^ m) : putN N v n < 2 ^ (n + m) := by
  unfold putN
  refine Nat.or_lt_two_pow (Nat.lt_of_lt_of_le hN (Nat.pow_le_pow_right (by omega) (by omega))) ?_
  rw [Nat.add_comm, Nat.pow_add]; exact Nat.mul_lt_mul_of_pos_right hv (Nat.two_pow_pos _)
theorem putN_zero (N n : Nat) : putN N 0 n = N := by simp [putN]
theorem byteN_or (N M i : Nat) : byteN (N ||| M) i = byteN N i ||| byteN M i := by
  refine Nat.eq_of_testBit_eq fun k => ?_
  rw [Nat.testBit_or, byteN_bit, byteN_bit, byteN_bit, Nat.testBit_or, Bool.and_or_distrib_left]
theorem byteN_put (v n m : Nat) : byteN (v * 2 ^ n) (n / 8 + m) = v * 2 ^ (n % 8) / 2 ^ (8 * m) % 256 := by
  refine Nat.eq_of_testBit_eq fun k => ?_
  rw [byteN_bit, show 256 = 2 ^ 8 from rfl, Nat.testBit_mod_two_pow, div_bit, mul_bit, mul_bit]
  by_cases h : k < 8
  · have e1 : (n ≤ 8 * (n / 8 + m) + k) ↔ (n % 8 ≤ 8 * m + k) := by omega
    by_cases h2 : n % 8 ≤ 8 * m + k
    · rw [decide_eq_true h2, decide_eq_true (e1.2 h2), show 8 * (n / 8 + m) + k - n = 8 * m + k - n % 8 by omega]
    · rw [decide_eq_false h2, decide_eq_false (fun x => h2 (e1.1 x))]; simp
  · simp [h]
theorem byteN_out {v n j : Nat} (hv : v < 2 ^ 16) (hj : j < n / 8 ∨ n / 8 + 3 ≤ j) : byteN (v * 2 ^ n) j = 0 := by
  refine Nat.eq_of_testBit_eq fun k => ?_
  rw [byteN_bit, mul_bit, Nat.zero_testBit]
  by_cases h : k < 8
  · rcases hj with hj | hj
    · rw [decide_eq_false (p := n ≤ 8 * j + k) (by omega)]; simp
    · rw [Nat.testBit_lt_two_pow (x := v) (i := 8 * j + k - n) (Nat.lt_of_lt_of_le hv (Nat.pow_le_pow_right (by omega) (by omega)))]; simp
  · simp [h]
/-- the next bits as a number -/
def peekN (N a g : Nat) : Nat := N / 2 ^ a % 2 ^ g
theorem peekN_bit (N a g k : Nat) : (peekN N a g).testBit k = (decide (k < g) && N.testBit (a + k)) := by
  unfold peekN; rw [Nat.testBit_mod_two_pow, div_bit]
theorem peekN_lt (N a g : Nat) : peekN N a g < 2 ^ g := Nat.mod_lt _ (Nat.two_pow_pos _)
def bitN (N k : Nat) : Nat := (N.testBit k).toNat
theorem bitN_lt (N k : Nat) : bitN N k < 2 := by unfold bitN; cases N.testBit k <;> decide
theorem bitN_bit (N k j : Nat) : (bitN N k).testBit j = (decide (j = 0) && N.testBit k) := by
  unfold bitN
  cases N.testBit k
  · simp
  · cases j with
    | zero => simp
    | succ j => rw [show true.toNat = 1 from rfl, Nat.testBit_lt_two_pow (x := 1) (i := j + 1) (by rw [Nat.pow_succ]; have := Nat.two_pow_pos j; omega)]; simp
theorem bitN_eq (N k : Nat) : N / 2 ^ k % 2 = bitN N k := by
  unfold bitN
  rw [Nat.testBit_eq_decide_div_mod_eq]
  have := Nat.mod_two_eq_zero_or_one (N / 2 ^ k)
  rcases this with h | h <;> simp [h]
theorem peekN_succ (N a g : Nat) : peekN N a (g + 1) = peekN N a g ||| bitN N (a + g) * 2 ^ g := by
  refine Nat.eq_of_testBit_eq fun k => ?_
  rw [Nat.testBit_or, peekN_bit, peekN_bit, mul_bit, bitN_bit]
  by_cases h : k < g
  · rw [decide_eq_true h, decide_eq_true (show k < g + 1 by omega), decide_eq_false (show ¬ g ≤ k by omega)]; simp
  · by_cases h2 : k = g
    · subst h2; simp
    · rw [decide_eq_false h, decide_eq_false (show ¬ k < g + 1 by omega), decide_eq_false (show ¬ k - g = 0 by omega)]; simp
theorem peekN_zero (N a : Nat) : peekN N a 0 = 0 := by simp [peekN, Nat.mod_one]
theorem three_bit (N i x : Nat) (hx : x < 24) : (byteN N i ||| byteN N (i + 1) * 2 ^ 8 ||| byteN N (i + 2) * 2 ^ 16).testBit x = N.testBit (8 * i + x) := by
  rw [Nat.testBit_or, Nat.testBit_or, mul_bit, mul_bit, byteN_bit, byteN_bit, byteN_bit]
  by_cases h1 : x < 8
  · rw [decide_eq_true h1, decide_eq_false (show ¬ 8 ≤ x by omega), decide_eq_false (show ¬ 16 ≤ x by omega)]; simp
  · by_cases h2 : x < 16
    · rw [decide_eq_false h1, decide_eq_true (show 8 ≤ x by omega), decide_eq_false (show ¬ 16 ≤ x by omega), decide_eq_true (show x - 8 < 8 by omega), show 8 * (i + 1) + (x - 8) = 8 * i + x by omega]; simp
    · rw [decide_eq_false h1, decide_eq_false (show ¬ x - 8 < 8 by omega), decide_eq_true (show 16 ≤ x by omega), decide_eq_true (show x - 16 < 8 by omega), show 8 * (i + 2) + (x - 16) = 8 * i + x by omega]; simp
theorem three_peek {N a g : Nat} (hg : g ≤ 16) : (byteN N (a / 8) ||| byteN N (a / 8 + 1) * 2 ^ 8 ||| byteN N (a / 8 + 2) * 2 ^ 16) / 2 ^ (a % 8) &&& (2 ^ g - 1) = peekN N a g := by
  rw [Nat.and_two_pow_sub_one_eq_mod]
  refine Nat.eq_of_testBit_eq fun k => ?_
  rw [Nat.testBit_mod_two_pow, div_bit, peekN_bit]
  by_cases h : k < g
  · rw [three_bit _ _ _ (by omega), show 8 * (a / 8) + (a % 8 + k) = a + k by omega]
  · simp [h]
/-- the model's bits -/
def bitsL (N n : Nat) : List Value := (List.range n).map fun k => Value.int .u8 (bitN N k : Int)
theorem bitsL_len (N n : Nat) : (bitsL N n).length = n := by simp [bitsL]
theorem bitsL_get {N n k : Nat} (h : k < n) : (bitsL N n)[k]? = some (.int .u8 (bitN N k : Int)) := by simp [bitsL, h]
theorem bitsL_one (N n : Nat) : ∀ v ∈ bitsL N n, v.oneCell' = true := by
  intro v hv; simp only [bitsL, List.mem_map] at hv; obtain ⟨k, _, rfl⟩ := hv; rfl
theorem bitN_put_lo {N v n k : Nat} (hk : k < n) : bitN (putN N v n) k = bitN N k := by
  unfold bitN; rw [putN_bit, decide_eq_false (show ¬ n ≤ k by omega)]; simp
theorem bitN_high {N n k : Nat} (hN : N < 2 ^ n) (hk : n ≤ k) : N.testBit k = false := Nat.testBit_lt_two_pow (Nat.lt_of_lt_of_le hN (Nat.pow_le_pow_right (by omega) hk))
theorem bitN_put_hi {N v n k : Nat} (hN : N < 2 ^ n) (hk : n ≤ k) : bitN (putN N v n) k = bitN v (k - n) := by
  unfold bitN; rw [putN_bit, decide_eq_true hk, bitN_high hN hk]; simp
theorem bitsL_put {N v n : Nat} (hN : N < 2 ^ n) (m : Nat) : bitsL (putN N v n) (n + m) = bitsL N n ++ bitsL v m := by
  unfold bitsL
  rw [List.range_add, List.map_append, List.map_map]
  congr 1
  · exact List.map_congr_left fun k hk => by rw [bitN_put_lo (List.mem_range.1 hk)]
  · exact List.map_congr_left fun k hk => by simp only [Function.comp]; rw [bitN_put_hi hN (by omega), show n + k - n = k by omega]
theorem bitsL_succ (N n : Nat) : bitsL N (n + 1) = bitsL N n ++ [.int .u8 (bitN N n : Int)] := by simp [bitsL, List.range_succ]
theorem bitsL_zero (N : Nat) : bitsL N 0 = [] := rfl
/-- a tape's text -/
def txt (N n : Nat) : ByteArray := mkS ((List.range ((n + 7) / 8)).map fun j => (byteN N j : Int))
theorem txt_size (N n : Nat) : (txt N n).size = (n + 7) / 8 := by unfold txt; rw [mkS_size]; simp
theorem txt_at {N n j : Nat} (h : j < (n + 7) / 8) : bAt (txt N n) j = byteN N j := by
  unfold bAt txt mkS
  simp only [List.map_map, List.getElem?_toArray, List.getElem?_map, List.getElem?_range h, Option.map_some, Option.getD_some, Function.comp, Int.toNat_natCast, UInt8.toNat_ofNat']
  exact Nat.mod_eq_of_lt (byteN_lt _ _)
theorem byte_bit (N k : Nat) : byteN N (k / 8) / 2 ^ (k % 8) % 2 = bitN N k := by
  rw [bitN_eq]; unfold bitN; rw [byteN_bit, decide_eq_true (show k % 8 < 8 by omega), show 8 * (k / 8) + k % 8 = k by omega]; simp
theorem step_byte (N i : Nat) : byteN (N % 2 ^ (i + 1)) (i / 8) = byteN (N % 2 ^ i) (i / 8) ||| bitN N i * 2 ^ (i % 8) := by
  refine Nat.eq_of_testBit_eq fun k => ?_
  rw [Nat.testBit_or, byteN_bit, byteN_bit, mul_bit, bitN_bit, Nat.testBit_mod_two_pow, Nat.testBit_mod_two_pow]
  by_cases h : k < 8
  · by_cases h1 : k < i % 8
    · rw [decide_eq_true (show 8 * (i / 8) + k < i + 1 by omega), decide_eq_true (show 8 * (i / 8) + k < i by omega), decide_eq_false (show ¬ i % 8 ≤ k by omega)]; simp
    · by_cases h2 : k = i % 8
      · subst h2; rw [show 8 * (i / 8) + i % 8 = i by omega]; simp; omega
      · rw [decide_eq_false (show ¬ 8 * (i / 8) + k < i + 1 by omega), decide_eq_false (show ¬ 8 * (i / 8) + k < i by omega), decide_eq_false (show ¬ k - i % 8 = 0 by omega)]; simp
  · rw [decide_eq_false h, decide_eq_false (show ¬ k - i % 8 = 0 by omega)]; simp
theorem step_byte_ne {N i j : Nat} (h : j ≠ i / 8) : byteN (N % 2 ^ (i + 1)) j = byteN (N % 2 ^ i) j := by
  refine Nat.eq_of_testBit_eq fun k => ?_
  rw [byteN_bit, byteN_bit, Nat.testBit_mod_two_pow, Nat.testBit_mod_two_pow]
  by_cases hk : k < 8
  · have : (8 * j + k < i + 1) ↔ (8 * j + k < i) := by omega
    by_cases h2 : 8 * j + k < i
    · rw [decide_eq_true h2, decide_eq_true (this.2 h2)]
    · rw [decide_eq_false h2, decide_eq_false (fun x => h2 (this.1 x))]
  · simp [hk]
/-- a text as a number -/
def numF (f : Nat → Nat) : Nat → Nat
  | 0 => 0
  | i + 1 => putN (numF f i) (f i) (8 * i)
theorem numF_lt {f : Nat → Nat} (hf : ∀ i, f i < 256) : ∀ i, numF f i < 2 ^ (8 * i)
  | 0 => by simp [numF]
  | i + 1 => by unfold numF; rw [show 8 * (i + 1) = 8 * i + 8 by omega]; exact putN_lt (numF_lt hf i) (hf i)
theorem numF_byte {f : Nat → Nat} (hf : ∀ i, f i < 256) : ∀ (i j : Nat), byteN (numF f i) j = if j < i then f j else 0
  | 0, j => by simp [numF, byteN_zero]
  | i + 1, j => by
    unfold numF putN
    rw [byteN_or, numF_byte hf i j]
    by_cases h1 : j < i
    · rw [if_pos h1, if_pos (by omega), byteN_out (Nat.lt_of_lt_of_le (hf i) (by decide)) (by omega)]; simp
    · by_cases h2 : j = i
      · subst h2
        rw [if_neg h1, if_pos (by omega)]
        have := byteN_put (f j) (8 * j) 0
        rw [show 8 * j / 8 + 0 = j by omega, show 8 * j % 8 = 0 by omega] at this
        rw [this]; simp; exact hf j
      · rw [if_neg h1, if_neg (by omega)]
        have hb := hf i
        have : byteN (f i * 2 ^ (8 * i)) j = 0 := byteN_high (n := 8 * i + 8) (by rw [Nat.add_comm, Nat.pow_add]; exact Nat.mul_lt_mul_of_pos_right hb (Nat.two_pow_pos _)) (by omega)
        rw [this]; simp
theorem bAt_lt (s : ByteArray) (n : Nat) : bAt s n < 256 := by unfold bAt; exact UInt8.toNat_lt _
def numS (s : ByteArray) : Nat := numF (bAt s) s.size
theorem numS_txt (s : ByteArray) : txt (numS s) (8 * s.size) = s := by
  unfold txt numS
  rw [show (8 * s.size + 7) / 8 = s.size by omega]
  have : (List.range s.size).map (fun j => (byteN (numF (bAt s) s.size) j : Int)) = (List.range s.size).map fun j => (bAt s j : Int) := List.map_congr_left fun j hj => by rw [numF_byte (bAt_lt s), if_pos (List.mem_range.1 hj)]
  rw [this]
  unfold mkS
  apply ByteArray.ext
  apply Array.ext_getElem?
  intro i
  simp only [List.map_map, List.getElem?_toArray, List.getElem?_map]
  by_cases h : i < s.size
  · rw [List.getElem?_range h]
    have hd : i < s.data.size := h
    rw [Array.getElem?_eq_getElem hd]; simp only [Function.comp, bAt, Array.getElem?_eq_getElem hd, Option.getD_some, Option.map_some, Int.toNat_natCast]; simp
  · rw [List.getElem?_eq_none (by simpa using h), Array.getElem?_eq_none (by simpa using h)]; rfl
/-- the tape and the cursor -/
structure TS where
  N : Nat
  n : Nat
  p : Nat
def OK (s : TS) : Prop := s.N < 2 ^ s.n ∧ s.p ≤ s.n ∧ s.n ≤ 4096
def putE (n : Nat) (v k : Int) : Nat := if k < 0 ∨ 16 < k ∨ v < 0 ∨ (2 ^ k.toNat : Nat) ≤ v then 2 else if 4096 < n + k then 3 else 0
def putS (s : TS) (v k : Int) : TS := if putE s.n v k = 0 then ⟨putN s.N v.toNat s.n, s.n + k.toNat, s.p⟩ else s
def skipE (s : TS) (k : Int) : Nat := if k < 0 ∨ 16 < k then 2 else if (s.n : Int) - s.p < k then 4 else 0
def skipS (s : TS) (k : Int) : TS := if skipE s k = 0 then ⟨s.N, s.n, s.p + k.toNat⟩ else s
def takeV (s : TS) (k : Int) : Nat := if skipE s k = 0 then peekN s.N s.p k.toNat else 0
def loadE (t : ByteArray) : Nat := if 512 < t.size then 1 else 0
def loadS (s : TS) (t : ByteArray) : TS := if loadE t = 0 then ⟨numS t, 8 * t.size, 0⟩ else s
def padS (s : TS) : TS := ⟨s.N, (s.n + 7) / 8 * 8, s.p⟩
def syncS (s : TS) : TS := ⟨s.N, s.n, min s.n ((s.p + 7) / 8 * 8)⟩
def gotF (s : TS) (k : Int) : Nat := if k < 0 ∨ 16 < k then 0 else min k.toNat (s.n - s.p)
def peekV (s : TS) (k : Int) : Nat := peekN s.N s.p (gotF s k)
theorem putE_ok {n : Nat} {v k : Int} (h : putE n v k = 0) : 0 ≤ k ∧ k ≤ 16 ∧ 0 ≤ v ∧ v.toNat < 2 ^ k.toNat ∧ n + k.toNat ≤ 4096 := by
  unfold putE at h
  split at h
  · cases h
  · split at h
    · cases h
    · rename_i h1 h2
      simp only [not_or, Int.not_lt, Int.not_le] at h1
      refine ⟨h1.1, h1.2.1, h1.2.2.1, ?_, by omega⟩
      have := h1.2.2.2
      omega
theorem OK.put {s : TS} (h : OK s) (v k : Int) : OK (putS s v k) := by
  unfold putS
  split
  · rename_i e
    have := putE_ok e
    exact ⟨putN_lt h.1 this.2.2.2.1, Nat.le_trans h.2.1 (Nat.le_add_right _ _), this.2.2.2.2⟩
  · exact h
theorem OK.skip {s : TS} (h : OK s) (k : Int) : OK (skipS s k) := by
  unfold skipS
  split
  · rename_i e
    unfold skipE at e
    split at e
    · cases e
    · split at e
      · cases e
      · have := h.2.1; exact ⟨h.1, by simp only; omega, h.2.2⟩
  · exact h
theorem OK.load {s : TS} (h : OK s) (t : ByteArray) : OK (loadS s t) := by
  unfold loadS
  split
  · rename_i e
    unfold loadE at e
    split at e
    · cases e
    · exact ⟨numF_lt (bAt_lt t) _, Nat.zero_le _, by simp only; omega⟩
  · exact h
theorem OK.pad {s : TS} (h : OK s) : OK (padS s) := by
  have := h.2.1; have := h.2.2
  exact ⟨Nat.lt_of_lt_of_le h.1 (Nat.pow_le_pow_right (by omega) (by simp only [padS]; omega)), by simp only [padS]; omega, by simp only [padS]; omega⟩
theorem OK.sync {s : TS} (h : OK s) : OK (syncS s) := ⟨h.1, Nat.min_le_left _ _, h.2.2⟩
theorem OK.zero : OK ⟨0, 0, 0⟩ := ⟨by simp, Nat.le_refl _, by simp⟩
end Go.Bits
