import Derived.Test.Qxb6500401aGreatEh
set_option linter.unusedVariables false
set_option linter.unusedSimpArgs false
namespace Go.Cnf
open Go.Eng
/-! the machine, as plain Lean -/
structure PS where
  arena : List Int
  state : Nat
  start : Nat
  minus : Bool
  val : Nat
  pos : Nat
  neg : Nat
  del : Bool
  opn : Bool
  err : Nat
  loc : Nat
def ccls (c : Nat) : Nat := if c = 32 ∨ c = 9 ∨ c = 13 ∨ c = 10 then 1 else if c = 45 then 3 else if c = 99 then 4 else if c = 100 then 5 else if 48 ≤ c ∧ c ≤ 57 then 2 else 0
def failF (p : PS) (e i : Nat) : PS := { p with err := e, loc := i }
def litsTo (pos neg : Nat) : Nat → List Int
  | 0 => []
  | k + 1 => litsTo pos neg k ++ (if pos.testBit (k + 1) then [((k + 1 : Nat) : Int)] else []) ++ (if neg.testBit (k + 1) then [-((k + 1 : Nat) : Int)] else [])
def rowL (del : Bool) (pos neg : Nat) : List Int := (if del then [13] else []) ++ litsTo pos neg 12 ++ [0]
def endRowF (p : PS) : PS := { p with arena := if p.pos &&& p.neg = 0 then p.arena ++ rowL p.del p.pos p.neg else p.arena, pos := 0, neg := 0, del := false, opn := false }
def numberF (p : PS) : PS :=
  if p.val = 0 ∧ p.minus = true then failF p 3 p.start
  else if 12 < p.val then failF p 4 p.start
  else if p.val = 0 then endRowF p
  else if p.minus then { p with opn := true, neg := p.neg ||| 2 ^ p.val } else { p with opn := true, pos := p.pos ||| 2 ^ p.val }
def beginF (p : PS) (c k i : Nat) : PS :=
  let p := { p with start := i }
  if k = 4 then { p with state := 1 }
  else if k = 5 then (if p.opn then failF p 2 i else { p with state := 4, del := true, opn := true })
  else if k = 3 then { p with state := 2, minus := true, val := 0 }
  else if k = 2 then { p with state := 3, minus := false, val := c - 48 }
  else if k = 0 then failF p 2 i else p
def satF (v c : Nat) : Nat := if 12 < v * 10 + (c - 48) then 13 else v * 10 + (c - 48)
def feedF (p : PS) (c i : Nat) : PS :=
  if p.state = 0 then beginF p c (ccls c) i
  else if p.state = 1 then (if c = 10 then { p with state := 0 } else p)
  else if p.state = 2 then (if ccls c = 2 then { p with state := 3, val := c - 48 } else if ccls c = 1 then failF p 3 p.start else failF p 2 i)
  else if p.state = 3 then (if ccls c = 2 then { p with val := satF p.val c } else if ccls c = 1 then numberF { p with state := 0 } else failF p 2 i)
  else if p.state = 4 then (if ccls c = 1 then { p with state := 0 } else failF p 2 i)
  else p
/-- n steps from place i on, up to the first fault -/
def run (f : Nat → Nat) : Nat → Nat → PS → PS
  | 0, _, p => p
  | n + 1, i, p => if p.err = 0 then run f n (i + 1) (feedF p (f i) i) else p
theorem run_err {f : Nat → Nat} {n i : Nat} {p : PS} (h : p.err ≠ 0) : run f n i p = p := by
  cases n <;> simp [run, h]
theorem run_succ {f : Nat → Nat} (n i : Nat) (p : PS) : run f (n + 1) i p = if p.err = 0 then run f n (i + 1) (feedF p (f i) i) else p := rfl
theorem run_add {f : Nat → Nat} : ∀ (m n i : Nat) (p : PS), run f (m + n) i p = run f n (i + m) (run f m i p)
  | 0, n, i, p => by rw [Nat.zero_add]; rfl
  | m + 1, n, i, p => by
    rw [show m + 1 + n = (m + n) + 1 by omega, run_succ, run_succ]
    by_cases h : p.err = 0
    · rw [if_pos h, if_pos h, run_add m n (i + 1), show i + 1 + m = i + (m + 1) by omega]
    · rw [if_neg h, if_neg h, run_err h]
theorem run_last {f : Nat → Nat} (n i : Nat) (p : PS) : run f (n + 1) i p = if (run f n i p).err = 0 then feedF (run f n i p) (f (i + n)) (i + n) else run f n i p := by
  rw [run_add n 1]; simp [run]
def p0 : PS := ⟨[], 0, 0, false, 0, 0, 0, false, false, 0, 0⟩
/-- what the text shows: its bytes, then a space -/
def bx (s : ByteArray) (i : Nat) : Nat := if i < s.size then bAt s i else 32
abbrev Res := Nat × Nat × List Int
def outF (len : Nat) (p : PS) : Res := if p.err ≠ 0 then (p.err, p.loc, []) else if p.opn then (5, len, []) else (0, 0, p.arena)
def parseF (s : ByteArray) : Res := if 1048576 < s.size then (1, 0, []) else outF s.size (run (bx s) (s.size + 1) 0 p0)

/-! what lies idle between tokens does not count -/
def Alk (p q : PS) : Prop := p.arena = q.arena ∧ p.state = q.state ∧ p.pos = q.pos ∧ p.neg = q.neg ∧ p.del = q.del ∧ p.opn = q.opn ∧ p.err = q.err ∧ p.loc = q.loc ∧ (p.state = 2 ∨ p.state = 3 → p.start = q.start ∧ p.minus = q.minus ∧ p.val = q.val)
theorem Alk.out {p q : PS} (h : Alk p q) (n : Nat) : outF n p = outF n q := by
  obtain ⟨h1, h2, h3, h4, h5, h6, h7, h8, h9⟩ := h
  unfold outF; rw [h7, h8, h6, h1]
theorem Alk.refl (p : PS) : Alk p p := ⟨rfl, rfl, rfl, rfl, rfl, rfl, rfl, rfl, fun _ => ⟨rfl, rfl, rfl⟩⟩
theorem Alk.feed {p q : PS} (h : Alk p q) (c i : Nat) : Alk (feedF p c i) (feedF q c i) := by
  obtain ⟨a, st, sa, mi, va, po, ne, de, op, er, lo⟩ := p
  obtain ⟨a', st', sa', mi', va', po', ne', de', op', er', lo'⟩ := q
  obtain ⟨h1, h2, h3, h4, h5, h6, h7, h8, h9⟩ := h
  simp only at h1 h2 h3 h4 h5 h6 h7 h8 h9
  subst h1 h2 h3 h4 h5 h6 h7 h8
  by_cases hs : st = 2 ∨ st = 3
  · obtain ⟨rfl, rfl, rfl⟩ := h9 hs
    exact Alk.refl _
  · unfold feedF
    simp only
    have e2 : st ≠ 2 := fun e => hs (.inl e)
    have e3 : st ≠ 3 := fun e => hs (.inr e)
    simp only [e2, e3, if_false]
    by_cases e0 : st = 0
    · simp only [e0, if_true, beginF]
      by_cases k4 : ccls c = 4
      · simp [k4, Alk]
      · by_cases k5 : ccls c = 5
        · by_cases ho : op = true <;> simp [k4, k5, ho, Alk, failF]
        · by_cases k3 : ccls c = 3
          · simp [k3, Alk]
          · by_cases k2 : ccls c = 2
            · simp [k2, Alk]
            · by_cases k0 : ccls c = 0 <;> simp [k4, k5, k3, k2, k0, Alk, failF]
    · simp only [e0, if_false]
      by_cases e1 : st = 1
      · simp only [e1, if_true]
        split <;> simp [Alk]
      · simp only [e1, if_false]
        split
        · split <;> simp [Alk, failF]; omega
        · simp [Alk]; omega
theorem Alk.run {f : Nat → Nat} : ∀ (n i : Nat) {p q : PS}, Alk p q → Alk (run f n i p) (run f n i q)
  | 0, _, _, _, h => h
  | n + 1, i, p, q, h => by
    have e : p.err = q.err := h.2.2.2.2.2.2.1
    unfold Go.Cnf.run
    rw [e]
    split
    · exact Alk.run n (i + 1) (h.feed _ _)
    · exact h

/-! ### the model's road against the machine's -/
def Bits (row : List Int) (pos neg : Nat) : Prop := pos < 8192 ∧ neg < 8192 ∧ (∀ v, 1 ≤ v → v ≤ 12 → (pos.testBit v = true ↔ (v : Int) ∈ row)) ∧ (∀ v, 1 ≤ v → v ≤ 12 → (neg.testBit v = true ↔ -(v : Int) ∈ row)) ∧ pos.testBit 0 = false ∧ neg.testBit 0 = false
theorem Bits.nil : Bits [] 0 0 := ⟨by omega, by omega, by simp, by simp, by simp, by simp⟩
theorem tb_or (a v k : Nat) : (a ||| 2 ^ v).testBit k = (a.testBit k || decide (v = k)) := by
  rw [Nat.testBit_or, Nat.testBit_two_pow]
theorem Bits.addP {row : List Int} {pos neg v : Nat} (h : Bits row pos neg) (h1 : 1 ≤ v) (h2 : v ≤ 12) : Bits (row ++ [(v : Int)]) (pos ||| 2 ^ v) neg := by
  obtain ⟨a, b, c, d, e, f⟩ := h
  have hv : 2 ^ v < 2 ^ 13 := Nat.pow_lt_pow_right (by omega) (by omega)
  refine ⟨Nat.or_lt_two_pow (n := 13) a hv, b, fun k k1 k2 => ?_, fun k k1 k2 => ?_, ?_, f⟩
  · rw [tb_or]; simp only [Bool.or_eq_true, decide_eq_true_eq, List.mem_append, List.mem_singleton, c k k1 k2]
    constructor
    · rintro (h | h); exact .inl h; exact .inr (by omega)
    · rintro (h | h); exact .inl h; exact .inr (by omega)
  · rw [d k k1 k2]; simp only [List.mem_append, List.mem_singleton]
    constructor
    · exact .inl
    · rintro (h | h); exact h; omega
  · rw [tb_or, e]; simp; omega
theorem Bits.addN {row : List Int} {pos neg v : Nat} (h : Bits row pos neg) (h1 : 1 ≤ v) (h2 : v ≤ 12) : Bits (row ++ [-(v : Int)]) pos (neg ||| 2 ^ v) := by
  obtain ⟨a, b, c, d, e, f⟩ := h
  have hv : 2 ^ v < 2 ^ 13 := Nat.pow_lt_pow_right (by omega) (by omega)
  refine ⟨a, Nat.or_lt_two_pow (n := 13) b hv, fun k k1 k2 => ?_, fun k k1 k2 => ?_, e, ?_⟩
  · rw [c k k1 k2]; simp only [List.mem_append, List.mem_singleton]
    constructor
    · exact .inl
    · rintro (h | h); exact h; omega
  · rw [tb_or]; simp only [Bool.or_eq_true, decide_eq_true_eq, List.mem_append, List.mem_singleton, d k k1 k2]
    constructor
    · rintro (h | h); exact .inl h; exact .inr (by omega)
    · rintro (h | h); exact .inl h; exact .inr (by omega)
  · rw [tb_or, f]; simp; omega
/-- the row's literals, by membership -/
def nrmTo (row : List Int) : Nat → List Int
  | 0 => []
  | k + 1 => nrmTo row k ++ (if ((k + 1 : Nat) : Int) ∈ row then [((k + 1 : Nat) : Int)] else []) ++ (if -((k + 1 : Nat) : Int) ∈ row then [-((k + 1 : Nat) : Int)] else [])
def Taut (row : List Int) : Prop := ∃ v : Nat, 1 ≤ v ∧ v ≤ 12 ∧ (v : Int) ∈ row ∧ -(v : Int) ∈ row
theorem Bits.lits {row : List Int} {pos neg : Nat} (h : Bits row pos neg) : ∀ k, k ≤ 12 → litsTo pos neg k = nrmTo row k
  | 0, _ => rfl
  | k + 1, hk => by
    obtain ⟨a, b, c, d, e, f⟩ := id h
    simp only [litsTo, nrmTo, h.lits k (by omega), c (k + 1) (by omega) hk, d (k + 1) (by omega) hk]
theorem Bits.taut {row : List Int} {pos neg : Nat} (h : Bits row pos neg) : pos &&& neg = 0 ↔ ¬ Taut row := by
  obtain ⟨a, b, c, d, e, f⟩ := h
  constructor
  · rintro h0 ⟨v, v1, v2, m1, m2⟩
    have := congrArg (fun x => x.testBit v) h0
    simp only [Nat.testBit_and, (c v v1 v2).2 m1, (d v v1 v2).2 m2, Nat.zero_testBit, Bool.and_self] at this
    cases this
  · intro ht
    refine Nat.eq_of_testBit_eq fun i => ?_
    rw [Nat.testBit_and, Nat.zero_testBit]
    by_cases i0 : i = 0
    · subst i0; rw [e]; rfl
    · by_cases i13 : i ≤ 12
      · by_cases hp : pos.testBit i = true
        · by_cases hn : neg.testBit i = true
          · exact absurd ⟨i, by omega, i13, (c i (by omega) i13).1 hp, (d i (by omega) i13).1 hn⟩ ht
          · simp [hn]
        · simp [hp]
      · have : pos.testBit i = false := Nat.testBit_lt_two_pow (Nat.lt_of_lt_of_le a (by have := Nat.pow_le_pow_right (show 0 < 2 by omega) (show 13 ≤ i by omega); omega))
        simp [this]
/-- where the model stands at place i, the machine, laid between two tokens, comes to the same end -/
def Sim (f : Nat → Nat) (len : Nat) (r : Res) (i : Nat) (flat row : List Int) (del opn : Bool) : Prop :=
  ∃ p : PS, p.state = 0 ∧ p.err = 0 ∧ p.arena = flat ∧ Bits row p.pos p.neg ∧ p.del = del ∧ p.opn = opn ∧ r = outF len (run f (len + 1 - i) i p)
theorem Sim.start (f : Nat → Nat) (len : Nat) : Sim f len (outF len (run f (len + 1) 0 p0)) 0 [] [] false false :=
  ⟨p0, rfl, rfl, rfl, Bits.nil, rfl, rfl, rfl⟩
section sim
variable {f : Nat → Nat} {len : Nat} {r : Res} {i : Nat} {flat row : List Int} {del opn : Bool}
theorem one {n i : Nat} {p : PS} (hn : 0 < n) (h : p.err = 0) : run f n i p = run f (n - 1) (i + 1) (feedF p (f i) i) := by
  obtain ⟨m, rfl⟩ : ∃ m, n = m + 1 := ⟨n - 1, by omega⟩
  rw [run_succ, if_pos h]; rfl
theorem feed_space {p : PS} {c i : Nat} (h0 : p.state = 0) (hc : ccls c = 1) : feedF p c i = { p with start := i } := by
  simp [feedF, h0, beginF, hc]
theorem Sim.space (h : Sim f len r i flat row del opn) (hi : i ≤ len) (hc : ccls (f i) = 1) : Sim f len r (i + 1) flat row del opn := by
  obtain ⟨p, h0, he, ha, hb, hd, ho, hr⟩ := h
  refine ⟨{ p with start := i }, h0, he, ha, hb, hd, ho, ?_⟩
  rw [hr, one (by omega) he, feed_space h0 hc, show len + 1 - i - 1 = len + 1 - (i + 1) by omega]
/-- at the text's end -/
theorem Sim.fin (h : Sim f len r len flat row del opn) (hc : ccls (f len) = 1) : r = if opn then (5, len, []) else (0, 0, flat) := by
  obtain ⟨p, h0, he, ha, hb, hd, ho, hr⟩ := h
  rw [hr, one (by omega) he, feed_space h0 hc, show len + 1 - len - 1 = 0 by omega]
  simp [run, outF, he, ho, ha]
/-- the machine in a state that behaves, at a space, as if it lay between tokens -/
theorem back {q p : PS} {j : Nat} (hj : j ≤ len) (hq : q.err = 0) (hp0 : p.state = 0) (hp : p.err = 0) (hc : ccls (f j) = 1) (h : Alk (feedF q (f j) j) { p with start := j }) : outF len (run f (len + 1 - j) j q) = outF len (run f (len + 1 - j) j p) := by
  rw [one (by omega) hq, one (p := p) (by omega) hp, feed_space hp0 hc]
  exact (Alk.run _ _ h).out len
theorem comment_run {p : PS} (hs : p.state = 1) (he : p.err = 0) : ∀ (n i : Nat), (∀ k, i ≤ k → k < i + n → f k ≠ 10) → run f n i p = p
  | 0, _, _ => rfl
  | n + 1, i, h => by
    have e : feedF p (f i) i = p := by simp [feedF, hs, h i (by omega) (by omega)]
    rw [run_succ, if_pos he, e, comment_run hs he n (i + 1) (fun k h1 h2 => h k (by omega) (by omega))]
theorem Sim.comment {k : Nat} (h : Sim f len r i flat row del opn) (hc : f i = 99) (hi : i < k) (hk : k ≤ len) (hn : ∀ m, i ≤ m → m < k → f m ≠ 10) (he : k < len → f k = 10) (hl : f len = 32) : Sim f len r k flat row del opn := by
  obtain ⟨p, h0, hr0, ha, hb, hd, ho, hr⟩ := h
  refine ⟨{ p with start := i }, h0, hr0, ha, hb, hd, ho, ?_⟩
  have e1 : feedF p (f i) i = { p with start := i, state := 1 } := by rw [hc]; simp [feedF, h0, beginF, ccls]
  rw [hr, one (by omega) hr0, e1, show len + 1 - i - 1 = (k - (i + 1)) + (len + 1 - k) by omega, run_add, comment_run (f := f) (p := { p with start := i, state := 1 }) rfl hr0 _ _ (fun m h1 h2 => hn m (by omega) (by omega)), show i + 1 + (k - (i + 1)) = k by omega]
  by_cases hkl : k < len
  · have hfk := he hkl
    exact back (q := { p with start := i, state := 1 }) (p := { p with start := i }) hk hr0 h0 hr0 (by rw [hfk]; decide) ⟨by simp [feedF, hfk], by simp [feedF, hfk, h0], by simp [feedF, hfk], by simp [feedF, hfk], by simp [feedF, hfk], by simp [feedF, hfk], by simp [feedF, hfk], by simp [feedF, hfk], by simp [feedF, hfk]⟩
  · have : k = len := by omega
    subst this
    rw [show k + 1 - k = 0 + 1 by omega, run_succ, run_succ]
    simp [feedF, hl, h0, hr0, beginF, ccls, run, outF]
theorem Sim.d {j : Nat} (h : Sim f len r i flat row del opn) (hc : f i = 100) (hi : i < j) (hj : j ≤ len) (ht : ∀ m, i ≤ m → m < j → ccls (f m) ≠ 1) (hs : ccls (f j) = 1) :
    (opn = true → r = (2, i, [])) ∧ (opn = false → i + 1 < j → r = (2, i + 1, [])) ∧ (opn = false → j = i + 1 → Sim f len r j flat row true true) := by
  obtain ⟨p, h0, hr0, ha, hb, hd, ho, hr⟩ := h
  have e1 : feedF p (f i) i = if p.opn then failF { p with start := i } 2 i else { p with start := i, state := 4, del := true, opn := true } := by rw [hc]; simp [feedF, h0, beginF, ccls]
  refine ⟨fun h1 => ?_, fun h1 h2 => ?_, fun h1 h2 => ?_⟩
  · rw [hr, one (by omega) hr0, e1, if_pos (by rw [ho]; exact h1), run_err (by simp [failF])]; simp [outF, failF]
  · rw [hr, one (by omega) hr0, e1, if_neg (by rw [ho, h1]; simp), one (p := { p with start := i, state := 4, del := true, opn := true }) (by omega) hr0]
    have e2 : ccls (f (i + 1)) ≠ 1 := ht (i + 1) (by omega) h2
    rw [show feedF { p with start := i, state := 4, del := true, opn := true } (f (i + 1)) (i + 1) = failF { p with start := i, state := 4, del := true, opn := true } 2 (i + 1) by simp [feedF, e2], run_err (by simp [failF])]
    simp [outF, failF]
  · subst h2
    refine ⟨{ p with start := i, del := true, opn := true }, h0, hr0, ha, hb, rfl, rfl, ?_⟩
    rw [hr, one (by omega) hr0, e1, if_neg (by rw [ho, h1]; simp), show len + 1 - i - 1 = len + 1 - (i + 1) by omega]
    exact back (q := { p with start := i, state := 4, del := true, opn := true }) (p := { p with start := i, del := true, opn := true }) hj hr0 h0 hr0 hs (by simp [feedF, hs, Alk, h0])
/-! numbers -/
def dig (c : Nat) : Prop := 48 ≤ c ∧ c ≤ 57
theorem cls_dig {c : Nat} : ccls c = 2 ↔ dig c := by
  unfold ccls dig; repeat' split
  all_goals omega
def valF (f : Nat → Nat) (a : Nat) : Nat → Nat
  | 0 => 0
  | n + 1 => satF (valF f a n) (f (a + n))
theorem digits_run {f : Nat → Nat} : ∀ (n i : Nat) (p : PS), p.state = 3 → p.err = 0 → (∀ k, i ≤ k → k < i + n → dig (f k)) → ∀ a m, p.val = valF f a m → i = a + m → run f n i p = { p with val := valF f a (m + n) }
  | 0, i, p, _, _, _, a, m, hv, _ => by rw [Nat.add_zero, ← hv]; rfl
  | n + 1, i, p, hs, he, hd, a, m, hv, hi => by
    have e : feedF p (f i) i = { p with val := satF p.val (f i) } := by simp [feedF, hs, cls_dig.2 (hd i (by omega) (by omega))]
    rw [run_succ, if_pos he, e, digits_run n (i + 1) { p with val := satF p.val (f i) } hs he (fun k h1 h2 => hd k (by omega) (by omega)) a (m + 1) (by simp only [valF]; rw [← hv, ← hi]) (by omega)]
    simp only [show m + 1 + n = m + (n + 1) by omega]
theorem valF_one {f : Nat → Nat} {a : Nat} (h : dig (f a)) : valF f a 1 = f a - 48 := by
  unfold dig at h; show satF 0 (f (a + 0)) = _; rw [Nat.add_zero]; unfold satF; rw [if_neg (by omega)]; omega
/-- what the model's number answers of the token from a to b -/
def NumR (f : Nat → Nat) (a b : Nat) (v : Nat) (neg : Bool) (e loc : Nat) : Prop :=
  let g := decide (f a = 45)
  let i := if f a = 45 then a + 1 else a
  (∃ k, i ≤ k ∧ k < b ∧ (∀ m, i ≤ m → m < k → dig (f m)) ∧ ¬ dig (f k) ∧ v = 0 ∧ neg = false ∧ e = 2 ∧ loc = k) ∨
  ((∀ m, i ≤ m → m < b → dig (f m)) ∧ ((i = b ∧ v = 0 ∧ neg = false ∧ e = 3 ∧ loc = a) ∨
    (i < b ∧ ((valF f i (b - i) = 0 ∧ g = true ∧ v = 0 ∧ neg = false ∧ e = 3 ∧ loc = a) ∨
      (¬ (valF f i (b - i) = 0 ∧ g = true) ∧ 12 < valF f i (b - i) ∧ v = 0 ∧ neg = false ∧ e = 4 ∧ loc = a) ∨
      (¬ (valF f i (b - i) = 0 ∧ g = true) ∧ valF f i (b - i) ≤ 12 ∧ v = valF f i (b - i) ∧ neg = g ∧ e = 0 ∧ loc = 0)))))

theorem dig_bad {q : PS} {a m x k : Nat} (hs : q.state = 3) (he : q.err = 0) (hv : q.val = valF f a m) (hx : x = a + m) (hk : x ≤ k) (hd : ∀ y, x ≤ y → y < k → dig (f y)) (hb : ¬ dig (f k)) (hc : ccls (f k) ≠ 1) (hl : k ≤ len) :
    outF len (run f (len + 1 - x) x q) = (2, k, []) := by
  rw [show len + 1 - x = (k - x) + (len + 1 - k) by omega, run_add, digits_run (k - x) x q hs he (fun y h1 h2 => hd y h1 (by omega)) a m hv hx, show x + (k - x) = k by omega, one (p := { q with val := valF f a (m + (k - x)) }) (by omega) he]
  rw [show feedF { q with val := valF f a (m + (k - x)) } (f k) k = failF { q with val := valF f a (m + (k - x)) } 2 k by simp [feedF, hs, hc, show ccls (f k) ≠ 2 from fun e => hb (cls_dig.1 e)], run_err (by simp [failF])]
  simp [outF, failF]
theorem dig_end {q : PS} {a m x j : Nat} (hs : q.state = 3) (he : q.err = 0) (hv : q.val = valF f a m) (hx : x = a + m) (hk : x ≤ j) (hd : ∀ y, x ≤ y → y < j → dig (f y)) (hc : ccls (f j) = 1) (hl : j ≤ len) :
    run f (len + 1 - x) x q = run f (len - j) (j + 1) (numberF { q with val := valF f a (j - a), state := 0 }) := by
  rw [show len + 1 - x = (j - x) + (len + 1 - j) by omega, run_add, digits_run (j - x) x q hs he (fun y h1 h2 => hd y h1 (by omega)) a m hv hx, show x + (j - x) = j by omega, one (p := { q with val := valF f a (m + (j - x)) }) (by omega) he]
  rw [show m + (j - x) = j - a by omega, show len + 1 - j - 1 = len - j by omega]
  rw [show feedF { q with val := valF f a (j - a) } (f j) j = numberF { q with val := valF f a (j - a), state := 0 } by simp [feedF, hs, hc]]
/-- a number token that is sound: what the machine does behind it -/
theorem num_ok {q : PS} {V j : Nat} (hl : j ≤ len) (hc : ccls (f j) = 1) (hs : q.state = 0) (he : q.err = 0) (hV : q.val = V) (hb : Bits row q.pos q.neg) (hr : r = outF len (run f (len - j) (j + 1) (numberF q))) :
    (V = 0 ∧ q.minus = true → r = (3, q.start, [])) ∧ (¬ (V = 0 ∧ q.minus = true) → 12 < V → r = (4, q.start, [])) ∧
    (¬ (V = 0 ∧ q.minus = true) → V ≤ 12 → V ≠ 0 → Sim f len r j q.arena (row ++ [if q.minus then -(V : Int) else V]) q.del true) ∧
    (¬ (V = 0 ∧ q.minus = true) → V = 0 → (Taut row → Sim f len r j q.arena [] false false) ∧ (¬ Taut row → Sim f len r j (q.arena ++ ((if q.del then [13] else []) ++ nrmTo row 12 ++ [0])) [] false false)) := by
  subst hV
  have key : (numberF q).err = 0 → (numberF q).state = 0 → r = outF len (run f (len + 1 - j) j (numberF q)) := by
    intro h1 h2
    rw [hr, one (n := len + 1 - j) (by omega) h1, feed_space h2 hc, show len + 1 - j - 1 = len - j by omega]
    refine (Alk.run _ _ ?_).out len
    simp [Alk, h2]
  refine ⟨fun h => ?_, fun h1 h2 => ?_, fun h1 h2 h3 => ?_, fun h1 h2 => ?_⟩
  · rw [hr, show numberF q = failF q 3 q.start by simp [numberF, h.1, h.2], run_err (by simp [failF])]; simp [outF, failF]
  · rw [hr, show numberF q = failF q 4 q.start by rw [numberF, if_neg h1, if_pos h2], run_err (by simp [failF])]; simp [outF, failF]
  · by_cases hm : q.minus = true
    · have e : numberF q = { q with opn := true, neg := q.neg ||| 2 ^ q.val } := by rw [numberF, if_neg h1, if_neg (by omega), if_neg h3, if_pos hm]
      rw [e] at key
      refine ⟨_, ?_, ?_, ?_, ?_, ?_, ?_, key he hs⟩
      · exact hs
      · exact he
      · rfl
      · simp only [hm, if_true]; exact hb.addN (by omega) h2
      · rfl
      · rfl
    · have e : numberF q = { q with opn := true, pos := q.pos ||| 2 ^ q.val } := by rw [numberF, if_neg h1, if_neg (by omega), if_neg h3, if_neg hm]
      rw [e] at key
      refine ⟨_, ?_, ?_, ?_, ?_, ?_, ?_, key he hs⟩
      · exact hs
      · exact he
      · rfl
      · simp only [hm, if_false]; exact hb.addP (by omega) h2
      · rfl
      · rfl
  · have e : numberF q = endRowF q := by rw [numberF, if_neg h1, if_neg (by omega), if_pos h2]
    rw [e] at key
    refine ⟨fun ht => ⟨endRowF q, hs, he, ?_, Bits.nil, rfl, rfl, key he hs⟩, fun ht => ⟨endRowF q, hs, he, ?_, Bits.nil, rfl, rfl, key he hs⟩⟩
    · simp only [endRowF]; rw [if_neg (fun h => hb.taut.1 h ht)]
    · simp only [endRowF]; rw [if_pos (hb.taut.2 ht), rowL, hb.lits 12 (by omega)]
theorem cls_cases (c : Nat) : ccls c = 1 ∨ (ccls c = 3 ∧ c = 45) ∨ (ccls c = 4 ∧ c = 99) ∨ (ccls c = 5 ∧ c = 100) ∨ (ccls c = 2 ∧ dig c) ∨ (ccls c = 0 ∧ ¬ dig c ∧ c ≠ 45) := by
  unfold ccls dig; repeat' split
  all_goals omega
theorem Sim.num {j v e loc : Nat} {neg : Bool} (h : Sim f len r i flat row del opn) (hs : ccls (f i) ≠ 1) (hc : f i ≠ 99) (hd : f i ≠ 100) (hi : i < j) (hj : j ≤ len) (ht : ∀ m, i ≤ m → m < j → ccls (f m) ≠ 1) (hsp : ccls (f j) = 1) (hn : NumR f i j v neg e loc) :
    (e ≠ 0 → r = (e, loc, [])) ∧ (e = 0 → v ≠ 0 → v ≤ 12 ∧ Sim f len r j flat (row ++ [if neg then -(v : Int) else v]) del true) ∧
    (e = 0 → v = 0 → (Taut row → Sim f len r j flat [] false false) ∧ (¬ Taut row → Sim f len r j (flat ++ ((if del then [13] else []) ++ nrmTo row 12 ++ [0])) [] false false)) := by
  obtain ⟨p, h0, hr0, ha, hb, hdl, ho, hr⟩ := h
  subst ha hdl ho
  have e45 : (48 ≤ 45) = False := by simp
  rcases cls_cases (f i) with c | ⟨c, c'⟩ | ⟨c, c'⟩ | ⟨c, c'⟩ | ⟨c, c'⟩ | ⟨c, c', c''⟩
  · exact absurd c hs
  · -- a minus
    have e1 : feedF p (f i) i = { p with start := i, state := 2, minus := true, val := 0 } := by simp [feedF, h0, beginF, c]
    rw [one (by omega) hr0, e1, show len + 1 - i - 1 = len + 1 - (i + 1) by omega] at hr
    simp only [NumR, c', if_true, decide_true] at hn
    have e2 : ∀ q : PS, q = { p with start := i, state := 2, minus := true, val := 0 } → dig (f (i + 1)) → i + 1 ≤ len → run f (len + 1 - (i + 1)) (i + 1) q = run f (len + 1 - (i + 2)) (i + 2) { p with start := i, state := 3, minus := true, val := valF f (i + 1) 1 } := by
      intro q hq hdg hle
      rw [one (p := q) (by omega) (by rw [hq]; exact hr0), show len + 1 - (i + 1) - 1 = len + 1 - (i + 2) by omega, hq]
      rw [show feedF { p with start := i, state := 2, minus := true, val := 0 } (f (i + 1)) (i + 1) = { p with start := i, state := 3, minus := true, val := f (i + 1) - 48 } by simp [feedF, cls_dig.2 hdg], valF_one hdg]
    rcases hn with ⟨k, k1, k2, k3, k4, rfl, rfl, rfl, rfl⟩ | ⟨hall, hn⟩
    · refine ⟨fun _ => ?_, fun h => by simp at h, fun h => by simp at h⟩
      rw [hr]
      by_cases hk : loc = i + 1
      · subst hk
        rw [one (p := { p with start := i, state := 2, minus := true, val := 0 }) (by omega) hr0]
        rw [show feedF { p with start := i, state := 2, minus := true, val := 0 } (f (i + 1)) (i + 1) = failF { p with start := i, state := 2, minus := true, val := 0 } 2 (i + 1) by simp [feedF, ht (i + 1) (by omega) k2, show ccls (f (i + 1)) ≠ 2 from fun e => k4 (cls_dig.1 e)], run_err (by simp [failF])]
        simp [outF, failF]
      · rw [e2 _ rfl (k3 _ (by omega) (by omega)) (by omega)]
        exact dig_bad (q := { p with start := i, state := 3, minus := true, val := valF f (i + 1) 1 }) rfl hr0 rfl (by omega) (by omega) (fun y h1 h2 => k3 y (by omega) h2) k4 (ht _ (by omega) k2) (by omega)
    · rcases hn with ⟨rfl, rfl, rfl, rfl, rfl⟩ | ⟨hlt, hn⟩
      · refine ⟨fun _ => ?_, fun h => by simp at h, fun h => by simp at h⟩
        rw [hr, one (p := { p with start := loc, state := 2, minus := true, val := 0 }) (by omega) hr0]
        rw [show feedF { p with start := loc, state := 2, minus := true, val := 0 } (f (loc + 1)) (loc + 1) = failF { p with start := loc, state := 2, minus := true, val := 0 } 3 loc by simp [feedF, hsp], run_err (by simp [failF])]
        simp [outF, failF]
      · rw [e2 _ rfl (hall _ (by omega) (by omega)) (by omega), dig_end (q := { p with start := i, state := 3, minus := true, val := valF f (i + 1) 1 }) rfl hr0 rfl (by omega) (by omega) (fun y h1 h2 => hall y (by omega) h2) hsp hj] at hr
        have hk := num_ok (row := row) (q := { p with start := i, state := 0, minus := true, val := valF f (i + 1) (j - (i + 1)) }) hj hsp rfl hr0 rfl hb hr
        simp only [if_true, and_true, true_and, eq_self] at hk hn
        obtain ⟨n1, n2, n3, n4⟩ := hk
        rcases hn with ⟨m1, rfl, rfl, rfl, rfl⟩ | ⟨m1, m2, rfl, rfl, rfl, rfl⟩ | ⟨m1, m2, rfl, rfl, rfl, rfl⟩
        · exact ⟨fun _ => n1 m1, fun h => by simp at h, fun h => by simp at h⟩
        · exact ⟨fun _ => n2 m1 m2, fun h => by simp at h, fun h => by simp at h⟩
        · exact ⟨fun h => absurd rfl h, fun _ h => ⟨m2, by simpa using n3 m1 m2 h⟩, fun _ h => absurd h m1⟩
  · exact absurd c' hc
  · exact absurd c' hd
  · -- a digit
    have n45 : f i ≠ 45 := by unfold dig at c'; omega
    have e1 : feedF p (f i) i = { p with start := i, state := 3, minus := false, val := valF f i 1 } := by rw [valF_one c']; simp [feedF, h0, beginF, c]
    rw [one (by omega) hr0, e1, show len + 1 - i - 1 = len + 1 - (i + 1) by omega] at hr
    simp only [NumR, n45, if_false, decide_false] at hn
    rcases hn with ⟨k, k1, k2, k3, k4, rfl, rfl, rfl, rfl⟩ | ⟨hall, hn⟩
    · refine ⟨fun _ => ?_, fun h => by simp at h, fun h => by simp at h⟩
      have hk : loc ≠ i := fun e => k4 (e ▸ c')
      rw [hr]
      exact dig_bad (q := { p with start := i, state := 3, minus := false, val := valF f i 1 }) rfl hr0 rfl (by omega) (by omega) (fun y h1 h2 => k3 y (by omega) h2) k4 (ht _ (by omega) k2) (by omega)
    · rcases hn with ⟨e, _⟩ | ⟨hlt, hn⟩
      · omega
      · rw [dig_end (q := { p with start := i, state := 3, minus := false, val := valF f i 1 }) rfl hr0 rfl (by omega) (by omega) (fun y h1 h2 => hall y (by omega) h2) hsp hj] at hr
        have hk := num_ok (row := row) (q := { p with start := i, state := 0, minus := false, val := valF f i (j - i) }) hj hsp rfl hr0 rfl hb hr
        simp only [Bool.false_eq_true, if_false, and_false, not_false_eq_true, false_and, true_implies, false_or, true_and] at hk hn
        obtain ⟨_, n2, n3, n4⟩ := hk
        rcases hn with ⟨m2, rfl, rfl, rfl, rfl⟩ | ⟨m2, rfl, rfl, rfl, rfl⟩
        · exact ⟨fun _ => n2 m2, fun h => by simp at h, fun h => by simp at h⟩
        · exact ⟨fun h => absurd rfl h, fun _ h => ⟨m2, by simpa using n3 m2 h⟩, fun _ h => by simpa using n4 h⟩
  · have e1 : feedF p (f i) i = failF { p with start := i } 2 i := by simp [feedF, h0, beginF, c]
    simp only [NumR, c'', if_false, decide_false] at hn
    rcases hn with ⟨k, k1, k2, k3, k4, rfl, rfl, rfl, rfl⟩ | ⟨hall, hn⟩
    · refine ⟨fun _ => ?_, fun h => by simp at h, fun h => by simp at h⟩
      have hk : loc = i := by
        by_cases hh : loc = i
        · exact hh
        · exact absurd (k3 i (by omega) (by omega)) c'
      subst hk
      rw [hr, one (by omega) hr0, e1, run_err (by simp [failF])]
      simp [outF, failF]
    · exact absurd (hall i (by omega) hi) c'
end sim

/-! ### flat forms -/
structure CS where
  start : Bool
  last : Nat
/-- one number of a flat form: none: a fault -/
def ckS (c : CS) (x : Int) (isLast : Bool) : Option CS :=
  if x = 13 ∧ c.start = true then (if isLast then none else some ⟨false, c.last⟩)
  else if x = 0 then some ⟨true, 0⟩
  else if ¬ (x ≠ 0 ∧ -12 ≤ x ∧ x ≤ 12) then none
  else if x.natAbs ≤ c.last then none
  else some ⟨false, x.natAbs⟩
def ckR : CS → List Int → Option CS
  | c, [] => some c
  | c, x :: l => (ckS c x l.isEmpty).bind fun c' => ckR c' l
def flatOk (l : List Int) : Bool := (ckR ⟨true, 0⟩ l).isSome && (l.isEmpty || decide (l.getLast? = some 0))
/-- a row that closes -/
theorem ckR_append (a b : List Int) : ∀ c, b ≠ [] → ckR c (a ++ b) = (a.foldl (fun o x => o.bind fun c => ckS c x false) (some c)).bind fun c' => ckR c' b := by
  induction a with
  | nil => intro c _; rfl
  | cons x a ih =>
    intro c hb
    have he : (a ++ b).isEmpty = false := by cases a <;> cases b <;> simp_all
    simp only [List.cons_append, ckR, he, List.foldl_cons, Option.bind_some]
    cases hx : ckS c x false with
    | none =>
      have : ∀ l : List Int, l.foldl (fun o x => Option.bind o fun c => ckS c x false) none = none := by
        intro l; induction l with
        | nil => rfl
        | cons _ _ ih => simpa using ih
      simp [this]
    | some c' => simp [ih c' hb]
theorem lits_fold (pos neg : Nat) (hd : pos &&& neg = 0) : ∀ k, k ≤ 12 → ∀ st, ∃ c : CS, (litsTo pos neg k).foldl (fun o x => o.bind fun c => ckS c x false) (some ⟨st, 0⟩) = some c ∧ c.last ≤ k
  | 0, _, st => ⟨⟨st, 0⟩, rfl, Nat.le_refl _⟩
  | k + 1, hk, st => by
    obtain ⟨c, hc, hl⟩ := lits_fold pos neg hd k (by omega) st
    have hb : pos.testBit (k + 1) = true → neg.testBit (k + 1) = true → False := by
      intro h1 h2
      have := congrArg (fun x => x.testBit (k + 1)) hd
      simp [Nat.testBit_and, h1, h2] at this
    simp only [litsTo, List.foldl_append, hc]
    by_cases hp : pos.testBit (k + 1) = true
    · have hn : neg.testBit (k + 1) = false := by cases h : neg.testBit (k + 1); rfl; exact (hb hp h).elim
      refine ⟨⟨false, k + 1⟩, ?_, Nat.le_refl _⟩
      simp only [hp, hn, if_true, List.foldl_cons, List.foldl_nil, Option.bind_some, Bool.false_eq_true, if_false, ckS]
      rw [if_neg (by omega), if_neg (by omega), if_neg (by omega), if_neg (by omega), Int.natAbs_natCast]
    · by_cases hn : neg.testBit (k + 1) = true
      · refine ⟨⟨false, k + 1⟩, ?_, Nat.le_refl _⟩
        simp only [hp, hn, if_true, List.foldl_cons, List.foldl_nil, Option.bind_some, Bool.false_eq_true, if_false, ckS]
        rw [if_neg (by omega), if_neg (by omega), if_neg (by omega), if_neg (by omega), Int.natAbs_neg, Int.natAbs_natCast]
      · exact ⟨c, by simp [hp, hn], by omega⟩
/-- flat forms: closed rows one behind the other -/
def Clo (l : List Int) : Prop := ckR ⟨true, 0⟩ l = some ⟨true, 0⟩ ∧ (l = [] ∨ l.getLast? = some 0)
theorem ckR_clo {a b : List Int} (ha : Clo a) (hb : b ≠ []) : ckR ⟨true, 0⟩ (a ++ b) = ckR ⟨true, 0⟩ b := by
  obtain ⟨h1, h2⟩ := ha
  rcases h2 with rfl | h2
  · rfl
  · obtain ⟨a', rfl⟩ : ∃ a', a = a' ++ [0] := by
      obtain ⟨ys, hy⟩ := List.getLast?_eq_some_iff.1 h2; exact ⟨ys, hy⟩
    rw [ckR_append _ _ _ hb]
    rw [ckR_append _ _ _ (by simp)] at h1
    rw [List.foldl_append]
    cases hf : a'.foldl (fun o x => o.bind fun c => ckS c x false) (some ⟨true, 0⟩) with
    | none => rw [hf] at h1; cases h1
    | some c => simp [ckS]
theorem Clo.row {a : List Int} (ha : Clo a) (del : Bool) (pos neg : Nat) (hd : pos &&& neg = 0) : Clo (a ++ rowL del pos neg) := by
  refine ⟨?_, .inr (by simp [rowL])⟩
  rw [ckR_clo ha (by simp [rowL])]
  unfold rowL
  cases del with
  | false =>
    obtain ⟨c, hc, _⟩ := lits_fold pos neg hd 12 (by omega) true
    simp only [Bool.false_eq_true, if_false, List.nil_append]
    rw [ckR_append _ _ _ (by simp), hc]; simp [ckR, ckS]
  | true =>
    obtain ⟨c, hc, _⟩ := lits_fold pos neg hd 12 (by omega) false
    simp only [if_true]
    rw [ckR_append _ _ _ (by simp), List.foldl_append]
    have e : ([13] : List Int).foldl (fun o x => o.bind fun c => ckS c x false) (some ⟨true, 0⟩) = some ⟨false, 0⟩ := by rfl
    rw [e, hc]; simp [ckR, ckS]
theorem Clo.ok {a : List Int} (h : Clo a) : flatOk a = true := by
  unfold flatOk; rw [h.1]
  rcases h.2 with rfl | h2
  · rfl
  · simp [h2]
/-- the arena is closed at every step -/
theorem feed_clo {p : PS} {c i : Nat} (h : Clo p.arena) : Clo (feedF p c i).arena := by
  have hn : ∀ q : PS, Clo q.arena → Clo (numberF q).arena := by
    intro q hq
    unfold numberF
    repeat' split
    all_goals first | exact hq | skip
    unfold endRowF
    simp only
    split
    · rename_i h0; exact hq.row _ _ _ h0
    · exact hq
  unfold feedF
  split
  · unfold beginF failF; simp only; repeat' split
    all_goals exact h
  · repeat' split
    all_goals first | exact h | exact hn _ h
theorem run_clo {f : Nat → Nat} : ∀ (n i : Nat) (p : PS), Clo p.arena → Clo (run f n i p).arena
  | 0, _, _, h => h
  | n + 1, i, p, h => by
    rw [run_succ]; split
    · exact run_clo n _ _ (feed_clo h)
    · exact h
theorem feed_loc {p : PS} {c i : Nat} (h : p.loc ≤ i) (hs : p.start ≤ i) : (feedF p c i).loc ≤ i ∧ (feedF p c i).start ≤ i := by
  have hn : ∀ q : PS, q.loc ≤ i → q.start ≤ i → (numberF q).loc ≤ i ∧ (numberF q).start ≤ i := by
    intro q h1 h2
    unfold numberF failF endRowF
    repeat' split
    all_goals exact ⟨by first | assumption | exact Nat.le_refl _, by first | assumption | exact Nat.le_refl _⟩
  unfold feedF beginF failF
  simp only
  repeat' split
  all_goals first | exact hn _ h hs | exact ⟨by first | assumption | exact Nat.le_refl _, by first | assumption | exact Nat.le_refl _⟩
theorem run_loc {f : Nat → Nat} : ∀ (n i : Nat) (p : PS), p.loc ≤ i → p.start ≤ i → (run f (n + 1) i p).loc ≤ i + n
  | 0, i, p, h, hs => by
    rw [run_succ]; split
    · exact (feed_loc h hs).1
    · exact h
  | n + 1, i, p, h, hs => by
    rw [run_succ]; split
    · obtain ⟨a, b⟩ := feed_loc (c := f i) h hs
      have := run_loc (f := f) n (i + 1) _ (Nat.le_succ_of_le a) (Nat.le_succ_of_le b)
      omega
    · omega
theorem parseF_ok {s : ByteArray} (h : (parseF s).1 = 0) : (parseF s).2.1 = 0 ∧ flatOk (parseF s).2.2 = true := by
  unfold parseF at h ⊢
  split at h
  · cases h
  · rename_i hs
    rw [if_neg hs]
    unfold outF at h ⊢
    split at h
    · rename_i h1; exact absurd h h1
    · split at h
      · cases h
      · rename_i h1 h2
        rw [if_neg h1, if_neg h2]
        exact ⟨rfl, (run_clo _ _ _ (by exact ⟨rfl, .inl rfl⟩)).ok⟩
theorem parseF_err {s : ByteArray} (h : (parseF s).1 ≠ 0) : (parseF s).2.1 ≤ s.size ∧ (parseF s).2.2 = [] := by
  unfold parseF at h ⊢
  split
  · exact ⟨Nat.zero_le _, rfl⟩
  · rename_i hs
    rw [if_neg hs] at h
    unfold outF at h ⊢
    split
    · have := run_loc (f := bx s) s.size 0 p0 (Nat.le_refl _) (Nat.le_refl _)
      exact ⟨by simpa using this, rfl⟩
    · split
      · exact ⟨Nat.le_refl _, rfl⟩
      · rename_i h1 h2; rw [if_neg h1, if_neg h2] at h; exact absurd rfl h

/-! ### printing, and the round trip -/
def numB (x : Int) : List Nat :=
  if x = 13 then [100, 32] else if x = 0 then [48, 10]
  else (if x < 0 then [45] else []) ++ (if 10 ≤ x.natAbs then [48 + x.natAbs / 10] else []) ++ [48 + x.natAbs % 10, 32]
def printB (l : List Int) : List Nat := l.flatMap numB
def feedL : PS → Nat → List Nat → PS
  | p, _, [] => p
  | p, i, b :: bs => if p.err = 0 then feedL (feedF p b i) (i + 1) bs else p
theorem run_list {f : Nat → Nat} : ∀ (bs : List Nat) (i : Nat) (p : PS), (∀ k, k < bs.length → f (i + k) = bs.getD k 0) → run f bs.length i p = feedL p i bs
  | [], _, _, _ => rfl
  | b :: bs, i, p, h => by
    have h0 : f i = b := by simpa using h 0 (by simp)
    rw [List.length_cons, run_succ, feedL, h0]
    split
    · exact run_list bs (i + 1) _ (fun k hk => by have := h (k + 1) (by simp; omega); rw [show i + 1 + k = i + (k + 1) by omega, this]; simp)
    · rfl
theorem feedL_append : ∀ (a b : List Nat) (i : Nat) (p : PS), feedL p i (a ++ b) = feedL (feedL p i a) (i + a.length) b
  | [], b, i, p => by simp [feedL]
  | x :: a, b, i, p => by
    rw [List.cons_append, feedL, feedL]
    split
    · rw [feedL_append a b, List.length_cons, show i + 1 + a.length = i + (a.length + 1) by omega]
    · rename_i h; cases b <;> simp [feedL, h]
theorem cls_num {d : Nat} (h : d ≤ 9) : ccls (48 + d) = 2 := cls_dig.2 ⟨by omega, by omega⟩
theorem lits_zero : ∀ k, litsTo 0 0 k = []
  | 0 => rfl
  | k + 1 => by simp [litsTo, lits_zero k]
theorem lits_ext {pos neg m : Nat} (h : ∀ k, m < k → pos.testBit k = false ∧ neg.testBit k = false) : ∀ d, litsTo pos neg (m + d) = litsTo pos neg m
  | 0 => rfl
  | d + 1 => by
    rw [← Nat.add_assoc]; simp only [litsTo, (h (m + d + 1) (by omega)).1, (h (m + d + 1) (by omega)).2, lits_ext h d]; simp
theorem lits_cong {pos neg pos' neg' : Nat} : ∀ k, (∀ i, i ≤ k → pos.testBit i = pos'.testBit i ∧ neg.testBit i = neg'.testBit i) → litsTo pos neg k = litsTo pos' neg' k
  | 0, _ => rfl
  | k + 1, h => by
    simp only [litsTo, (h (k + 1) (by omega)).1, (h (k + 1) (by omega)).2, lits_cong k (fun i hi => h i (by omega))]
/-- behind the numbers 'done' of a flat form the machine stands so -/
structure RT (p : PS) (done : List Int) (c : CS) : Prop where
  s0 : p.state = 0
  e0 : p.err = 0
  dn : done = p.arena ++ ((if p.del then [13] else []) ++ litsTo p.pos p.neg c.last)
  dj : p.pos &&& p.neg = 0
  hi : ∀ k, c.last < k → p.pos.testBit k = false ∧ p.neg.testBit k = false
  op : p.opn = !c.start
  st : c.start = true → p.del = false ∧ c.last = 0 ∧ p.pos = 0 ∧ p.neg = 0
  le : c.last ≤ 12
theorem bit_dj {a b v : Nat} (h : a &&& b = 0) (hb : b.testBit v = false) : (a ||| 2 ^ v) &&& b = 0 := by
  refine Nat.eq_of_testBit_eq fun i => ?_
  have h2 := congrArg (fun x => x.testBit i) h
  simp only [Nat.testBit_and, Nat.zero_testBit] at h2 ⊢
  rw [tb_or]
  by_cases hv : v = i
  · subst hv; rw [hb]; simp
  · simp only [hv, decide_false, Bool.or_false]; exact h2
theorem RT.step {p : PS} {done : List Int} {c c' : CS} {x : Int} {il : Bool} (h : RT p done c) (hc : ckS c x il = some c') (i : Nat) : RT (feedL p i (numB x)) (done ++ [x]) c' := by
  obtain ⟨s0, e0, dn, dj, hi, op, st, le⟩ := h
  unfold ckS at hc
  split at hc
  · rename_i hx
    obtain ⟨rfl, hs⟩ := hx
    split at hc
    · cases hc
    · cases hc
      obtain ⟨s1, s2, s3, s4⟩ := st hs
      have e : feedL p i (numB 13) = { p with start := i, state := 0, del := true, opn := true } := by
        simp [numB, feedL, e0, feedF, s0, beginF, ccls, op, hs]
      rw [e]
      exact ⟨rfl, e0, by rw [dn, s1, s2]; simp [litsTo], dj, hi, rfl, (by simp), le⟩
  · split at hc
    · rename_i _ hx
      subst hx
      cases hc
      have e : feedL p i (numB 0) = endRowF { p with start := i, state := 0, minus := false, val := 0 } := by
        simp [numB, feedL, e0, feedF, s0, beginF, ccls, numberF]
      rw [e]
      refine ⟨rfl, e0, ?_, by simp [endRowF], by simp [endRowF], rfl, fun _ => ⟨rfl, rfl, rfl, rfl⟩, by simp⟩
      have hl : litsTo p.pos p.neg 12 = litsTo p.pos p.neg c.last := by
        have := lits_ext hi (12 - c.last); rwa [show c.last + (12 - c.last) = 12 by omega] at this
      simp only [endRowF, dj, if_true, rowL, hl, dn, lits_zero]
      simp
    · split at hc
      · cases hc
      · split at hc
        · cases hc
        · rename_i n13 n0 hg hlt
          cases hc
          have hv : 1 ≤ x.natAbs ∧ x.natAbs ≤ 12 := by omega
          generalize hV : x.natAbs = V at *
          -- the digits
          have key : ∀ (q : PS) (j : Nat) (g : Bool), q.err = 0 → q.state = 3 ∨ q.state = 2 ∨ q.state = 0 → (q.state = 0 → g = false ∧ j = j) → (q.state = 2 → q.minus = true ∧ g = true) → q.state ≠ 3 →
              ∃ sa, feedL q j ((if 10 ≤ V then [48 + V / 10] else []) ++ [48 + V % 10, 32]) = numberF { q with state := 0, minus := g, val := V, start := sa } := by
            intro q j g q0 q1 q2 q3 q4
            have h12 : V % 10 ≤ 9 := by omega
            have c1 := cls_num h12
            have c32 : ccls 32 = 1 := rfl
            rcases q1 with q1 | q1 | q1
            · exact absurd q1 q4
            · obtain ⟨m1, rfl⟩ := q3 q1
              refine ⟨q.start, ?_⟩
              by_cases h10 : 10 ≤ V
              · have c49 := cls_num (show V / 10 ≤ 9 by omega)
                have hsat : satF (V / 10) (48 + V % 10) = V := by unfold satF; rw [if_neg (by omega)]; omega
                simp only [h10, if_true, List.cons_append, List.nil_append, feedL, q0, feedF, q1, c49, c1, c32]
                simp [q0, hsat, m1]
              · have hm : V % 10 = V := by omega
                simp only [h10, if_false, List.nil_append, feedL, q0, feedF, q1, c1, c32, if_true]
                simp [q0, hm, m1]
            · obtain ⟨rfl, _⟩ := q2 q1
              refine ⟨j, ?_⟩
              by_cases h10 : 10 ≤ V
              · have c49 := cls_num (show V / 10 ≤ 9 by omega)
                have hsat : satF (V / 10) (48 + V % 10) = V := by unfold satF; rw [if_neg (by omega)]; omega
                simp only [h10, if_true, List.cons_append, List.nil_append, feedL, q0, feedF, q1, c49, c1, c32, beginF]
                simp [q0, hsat]
              · have hm : V % 10 = V := by omega
                simp only [h10, if_false, List.nil_append, feedL, q0, feedF, q1, c1, c32, if_true, beginF]
                simp [q0, hm]
          have hn : ∀ q : PS, q.val = V → numberF q = if q.minus then { q with opn := true, neg := q.neg ||| 2 ^ V } else { q with opn := true, pos := q.pos ||| 2 ^ V } := by
            intro q hq
            unfold numberF
            rw [if_neg (by omega), if_neg (by omega), if_neg (by omega), hq]
          have hb := hi V (by omega)
          have hle : litsTo p.pos p.neg (V - 1) = litsTo p.pos p.neg c.last := by
            have := lits_ext hi (V - 1 - c.last); rwa [show c.last + (V - 1 - c.last) = V - 1 by omega] at this
          obtain ⟨W, rfl⟩ : ∃ W, V = W + 1 := ⟨V - 1, by omega⟩
          rw [show W + 1 - 1 = W by omega] at hle
          by_cases hneg : x < 0
          · have hxV : x = -((W + 1 : Nat) : Int) := by omega
            have e : numB x = 45 :: ((if 10 ≤ W + 1 then [48 + (W + 1) / 10] else []) ++ [48 + (W + 1) % 10, 32]) := by
              unfold numB; rw [if_neg (by omega), if_neg n0, if_pos hneg, hV]; simp
            have e1 : feedF p 45 i = { p with start := i, state := 2, minus := true, val := 0 } := by simp [feedF, s0, beginF, ccls]
            obtain ⟨sa, e2⟩ := key { p with start := i, state := 2, minus := true, val := 0 } (i + 1) true e0 (.inr (.inl rfl)) (fun h => by cases h) (fun _ => ⟨rfl, rfl⟩) (by simp)
            rw [e, feedL, if_pos e0, e1, e2, hn _ rfl]
            simp only [if_true]
            refine ⟨rfl, e0, ?_, by rw [Nat.and_comm]; exact bit_dj (by rw [Nat.and_comm]; exact dj) hb.1, fun k hk => ?_, rfl, by simp, hv.2⟩
            · simp only [litsTo, tb_or, hb.1, hb.2]
              rw [lits_cong W (pos := p.pos) (neg := p.neg ||| 2 ^ (W + 1)) (pos' := p.pos) (neg' := p.neg) (fun i hi => ⟨rfl, by rw [tb_or]; simp; omega⟩), hle, dn, hxV]
              simp
            · have := hi k (by simp at hk; omega)
              refine ⟨this.1, ?_⟩
              simp only [tb_or, this.2]; simp at hk ⊢; omega
          · have hxV : x = ((W + 1 : Nat) : Int) := by omega
            have e : numB x = (if 10 ≤ W + 1 then [48 + (W + 1) / 10] else []) ++ [48 + (W + 1) % 10, 32] := by
              unfold numB; rw [if_neg (by omega), if_neg n0, if_neg hneg, hV]; simp
            obtain ⟨sa, e2⟩ := key p i false e0 (.inr (.inr s0)) (fun h => ⟨rfl, rfl⟩) (fun h => by omega) (by omega)
            rw [e, e2, hn _ rfl]
            simp only [Bool.false_eq_true, if_false]
            refine ⟨rfl, e0, ?_, bit_dj dj hb.2, fun k hk => ?_, rfl, by simp, hv.2⟩
            · simp only [litsTo, tb_or, hb.1, hb.2]
              rw [lits_cong W (pos := p.pos ||| 2 ^ (W + 1)) (neg := p.neg) (pos' := p.pos) (neg' := p.neg) (fun i hi => ⟨by rw [tb_or]; simp; omega, rfl⟩), hle, dn, hxV]
              simp
            · have := hi k (by simp at hk; omega)
              refine ⟨?_, this.2⟩
              simp only [tb_or, this.1]; simp at hk ⊢; omega
theorem RT.all : ∀ (l done : List Int) (p : PS) (c c' : CS) (i : Nat), RT p done c → ckR c l = some c' → RT (feedL p i (printB l)) (done ++ l) c'
  | [], done, p, c, c', i, h, hc => by cases hc; simpa [printB, feedL] using h
  | x :: l, done, p, c, c', i, h, hc => by
    simp only [ckR, Option.bind_eq_some_iff] at hc
    obtain ⟨c1, h1, h2⟩ := hc
    have := RT.all l (done ++ [x]) _ c1 c' (i + (numB x).length) (h.step h1 i) h2
    rw [show printB (x :: l) = numB x ++ printB l from rfl, feedL_append]
    simpa using this
theorem ckR_last : ∀ (l : List Int) (c c' : CS), ckR c l = some c' → l.getLast? = some 0 → c'.start = true
  | [], _, _, _, h => by cases h
  | [x], c, c', hc, hl => by
    simp at hl; subst hl
    simp [ckR, ckS] at hc; rw [← hc]
  | x :: y :: l, c, c', hc, hl => by
    simp only [ckR, Option.bind_eq_some_iff] at hc
    obtain ⟨c1, h1, h2⟩ := hc
    exact ckR_last (y :: l) c1 c' (by simpa only [ckR, Option.bind_eq_some_iff] using h2) (by simpa using hl)
def textOf (l : List Nat) : ByteArray := ⟨(l.map UInt8.ofNat).toArray⟩
theorem numB_lt (x : Int) (h : x = 13 ∨ (-12 ≤ x ∧ x ≤ 12)) : (∀ b ∈ numB x, b < 256) ∧ (numB x).length ≤ 4 := by
  unfold numB
  split
  · simp
  · split
    · simp
    · constructor
      · intro b hb
        simp only [List.mem_append, List.mem_cons, List.not_mem_nil, or_false] at hb
        rcases hb with (hb | hb) | hb | hb
        · split at hb <;> simp at hb; omega
        · split at hb <;> simp at hb; omega
        · omega
        · omega
      · simp only [List.length_append]
        split <;> split <;> simp
theorem ckR_rng : ∀ (l : List Int) (c c' : CS), ckR c l = some c' → ∀ x ∈ l, x = 13 ∨ (-12 ≤ x ∧ x ≤ 12)
  | [], _, _, _, x, hx => by cases hx
  | y :: l, c, c', hc, x, hx => by
    simp only [ckR, Option.bind_eq_some_iff] at hc
    obtain ⟨c1, h1, h2⟩ := hc
    rcases List.mem_cons.1 hx with rfl | hx
    · unfold ckS at h1
      split at h1
      · rename_i h; exact .inl h.1
      · split at h1
        · right; omega
        · split at h1
          · cases h1
          · right; omega
    · exact ckR_rng l c1 c' h2 x hx
theorem printB_len : ∀ l : List Int, (∀ x ∈ l, x = 13 ∨ (-12 ≤ x ∧ x ≤ 12)) → (printB l).length ≤ 4 * l.length ∧ ∀ b ∈ printB l, b < 256
  | [], _ => by simp [printB]
  | x :: l, h => by
    obtain ⟨h1, h2⟩ := printB_len l (fun y hy => h y (List.mem_cons_of_mem _ hy))
    obtain ⟨h3, h4⟩ := numB_lt x (h x (List.mem_cons_self ..))
    rw [show printB (x :: l) = numB x ++ printB l from rfl]
    refine ⟨by rw [List.length_append, List.length_cons]; omega, fun b hb => ?_⟩
    rcases List.mem_append.1 hb with hb | hb
    · exact h3 b hb
    · exact h2 b hb
theorem textOf_size (l : List Nat) : (textOf l).size = l.length := by
  show (textOf l).data.size = _; simp [textOf]
theorem round {l : List Int} (h : flatOk l = true) (hl : l.length ≤ 262144) : parseF (textOf (printB l)) = (0, 0, l) := by
  unfold flatOk at h
  simp only [Bool.and_eq_true, Option.isSome_iff_exists] at h
  obtain ⟨⟨c, hc⟩, he⟩ := h
  obtain ⟨h1, h2⟩ := printB_len l (ckR_rng l _ c hc)
  have hrt := RT.all l [] p0 ⟨true, 0⟩ c 0 ⟨rfl, rfl, rfl, rfl, fun k _ => by simp [p0], rfl, fun _ => ⟨rfl, rfl, rfl, rfl⟩, by simp⟩ hc
  have hst : c.start = true := by
    rcases l with _ | ⟨x, l⟩
    · simp [ckR] at hc; rw [← hc]
    · simp at he; exact ckR_last _ _ _ hc (by simpa using he)
  have hsz := textOf_size (printB l)
  unfold parseF
  rw [if_neg (by omega), hsz, run_add, run_list (printB l) 0 p0 (fun k hk => ?_)]
  · obtain ⟨s0, e0, dn, dj, hi, op, st, le⟩ := hrt
    obtain ⟨s1, s2, s3, s4⟩ := st hst
    rw [one (by omega) e0, feed_space s0 (by unfold bx; rw [if_neg (by omega)]; rfl)]
    show outF _ { feedL p0 0 (printB l) with start := _ } = _
    simp only [outF, e0, op, hst]
    simp only [s1, s2, litsTo] at dn
    simp at dn ⊢
    exact dn.symm
  · rw [Nat.zero_add]; unfold bx; rw [if_pos (by omega)]
    unfold bAt textOf
    simp [hk]
    exact h2 _ (List.getElem_mem hk)
end Go.Cnf
