import Derived.Test.Qxb6500404aGreatLb
set_option linter.unusedVariables false
set_option linter.unusedSimpArgs false
namespace Go.Blk
open Go.Bits
/-! ### what is laid on a tape: numbers with their widths -/
def ln : List (Nat × Nat) → Nat
  | [] => 0
  | q :: l => q.2 + ln l
def nm : List (Nat × Nat) → Nat
  | [] => 0
  | q :: l => q.1 + 2 ^ q.2 * nm l
def Vd (l : List (Nat × Nat)) : Prop := ∀ q, q ∈ l → q.1 < 2 ^ q.2 ∧ q.2 ≤ 16
def wr (s : TS) : List (Nat × Nat) → TS
  | [] => s
  | q :: l => wr (putS s q.1 q.2) l
theorem ln_app (a b : List (Nat × Nat)) : ln (a ++ b) = ln a + ln b := by
  induction a with
  | nil => simp [ln]
  | cons q l ih => simp only [List.cons_append, ln, ih]; omega
theorem wr_app (a b : List (Nat × Nat)) : ∀ s, wr s (a ++ b) = wr (wr s a) b := by
  induction a with
  | nil => intro s; rfl
  | cons q l ih => intro s; simp only [List.cons_append, wr, ih]
theorem Vd.tail {q : Nat × Nat} {l : List (Nat × Nat)} (h : Vd (q :: l)) : Vd l := fun r hr => h r (List.mem_cons_of_mem _ hr)
theorem Vd.app {a b : List (Nat × Nat)} (ha : Vd a) (hb : Vd b) : Vd (a ++ b) := fun q hq => by
  rcases List.mem_append.1 hq with h | h
  · exact ha q h
  · exact hb q h
theorem Vd.left {a b : List (Nat × Nat)} (h : Vd (a ++ b)) : Vd a := fun q hq => h q (List.mem_append_left _ hq)
theorem Vd.right {a b : List (Nat × Nat)} (h : Vd (a ++ b)) : Vd b := fun q hq => h q (List.mem_append_right _ hq)
theorem Vd.nil : Vd [] := fun q hq => by cases hq
theorem Vd.cons {q : Nat × Nat} {l : List (Nat × Nat)} (h1 : q.1 < 2 ^ q.2) (h2 : q.2 ≤ 16) (h : Vd l) : Vd (q :: l) := fun r hr => by
  rcases List.mem_cons.1 hr with e | e
  · rw [e]; exact ⟨h1, h2⟩
  · exact h r e
theorem putN_add {N v n : Nat} (h : N < 2 ^ n) : putN N v n = N + 2 ^ n * v := by
  unfold putN
  rw [Nat.or_comm, Nat.mul_comm, ← Nat.two_pow_add_eq_or_of_lt h v, Nat.add_comm]
theorem putE_0 {n v k : Nat} (hv : v < 2 ^ k) (hk : k ≤ 16) (hn : n + k ≤ 4096) : putE n (v : Int) (k : Int) = 0 := by
  unfold putE
  rw [if_neg (by simp only [Int.toNat_natCast]; omega), if_neg (by omega)]
theorem put_is {s : TS} (hs : OK s) {v k : Nat} (hv : v < 2 ^ k) (hk : k ≤ 16) (hn : s.n + k ≤ 4096) : putS s (v : Int) (k : Int) = ⟨s.N + 2 ^ s.n * v, s.n + k, s.p⟩ := by
  unfold putS
  rw [if_pos (putE_0 hv hk hn), Int.toNat_natCast, Int.toNat_natCast, putN_add hs.1]
theorem wr_is : ∀ {l : List (Nat × Nat)} {s : TS}, OK s → Vd l → s.n + ln l ≤ 4096 → wr s l = ⟨s.N + 2 ^ s.n * nm l, s.n + ln l, s.p⟩ := by
  intro l
  induction l with
  | nil => intro s hs _ _; simp [wr, nm, ln]
  | cons q l ih =>
    intro s hs hv hn
    obtain ⟨h1, h2⟩ := hv q (by simp)
    simp only [ln] at hn
    have hp := put_is hs h1 h2 (by omega)
    have hok := hs.put (q.1 : Int) (q.2 : Int)
    rw [wr, hp]
    rw [hp] at hok
    rw [ih hok hv.tail (by simp only []; omega)]
    simp only [nm, ln, TS.mk.injEq]
    refine ⟨?_, by omega, trivial⟩
    rw [Nat.pow_add, Nat.mul_add, Nat.mul_assoc, Nat.add_assoc]
theorem nm_lt : ∀ {l : List (Nat × Nat)}, Vd l → nm l < 2 ^ ln l := by
  intro l
  induction l with
  | nil => intro _; simp [nm, ln]
  | cons q l ih =>
    intro hv
    have h1 := (hv q (by simp)).1
    have h2 := ih hv.tail
    simp only [nm, ln, Nat.pow_add]
    calc q.1 + 2 ^ q.2 * nm l < 2 ^ q.2 + 2 ^ q.2 * nm l := by omega
      _ = 2 ^ q.2 * (nm l + 1) := by rw [Nat.mul_add, Nat.mul_one]; omega
      _ ≤ 2 ^ q.2 * 2 ^ ln l := Nat.mul_le_mul_left _ h2
theorem wr_ok : ∀ {l : List (Nat × Nat)} {s : TS}, OK s → OK (wr s l) := by
  intro l
  induction l with
  | nil => intro s h; exact h
  | cons q l ih => intro s h; exact ih (h.put _ _)
/-- a put of no bits is none -/
theorem put_0 {s : TS} (hs : OK s) : putS s 0 0 = s := by
  have := put_is hs (v := 0) (k := 0) (by simp) (by omega) (by have := hs.2.2; omega)
  simpa using this
/-! ### reading it back -/
structure Rd (s : TS) (l : List (Nat × Nat)) : Prop where
  ok : OK s
  nm : s.N / 2 ^ s.p = Blk.nm l
  ln : s.p + Blk.ln l ≤ s.n
theorem Rd.take {s : TS} {v k : Nat} {l : List (Nat × Nat)} (h : Rd s ((v, k) :: l)) (hv : v < 2 ^ k) (hk : k ≤ 16) : skipE s (k : Int) = 0 ∧ takeV s (k : Int) = v ∧ skipS s (k : Int) = ⟨s.N, s.n, s.p + k⟩ ∧ Rd (skipS s (k : Int)) l := by
  have h1 := h.ln
  simp only [Blk.ln] at h1
  have e : skipE s (k : Int) = 0 := by unfold skipE; rw [if_neg (by omega), if_neg (by omega)]
  have es : skipS s (k : Int) = ⟨s.N, s.n, s.p + k⟩ := by unfold skipS; rw [if_pos e, Int.toNat_natCast]
  refine ⟨e, ?_, es, h.ok.skip _, ?_, ?_⟩
  · unfold takeV; rw [if_pos e, Int.toNat_natCast]; unfold peekN
    rw [h.nm, Blk.nm]; simp only []
    rw [Nat.add_mul_mod_self_left, Nat.mod_eq_of_lt hv]
  · rw [es]; simp only []
    rw [Nat.pow_add, ← Nat.div_div_eq_div_mul, h.nm, Blk.nm]; simp only []
    rw [Nat.add_mul_div_left _ _ (Nat.two_pow_pos _), Nat.div_eq_of_lt hv, Nat.zero_add]
  · rw [es]; simp only []; omega
/-- what a Peek sees of a code that lies ahead -/
theorem Rd.peek {s : TS} {v k : Nat} {l : List (Nat × Nat)} (h : Rd s ((v, k) :: l)) (hv : v < 2 ^ k) (hk : k ≤ 10) : k ≤ gotF s 10 ∧ gotF s 10 ≤ 10 ∧ peekV s 10 % 2 ^ k = v ∧ peekV s 10 < 2 ^ gotF s 10 := by
  have h1 := h.ln
  simp only [Blk.ln] at h1
  have hg : gotF s 10 = min 10 (s.n - s.p) := by unfold gotF; rw [if_neg (by omega)]; rfl
  refine ⟨by omega, by omega, ?_, peekN_lt _ _ _⟩
  unfold peekV peekN
  rw [Nat.mod_mod_of_dvd _ (Nat.pow_dvd_pow 2 (by omega)), h.nm, Blk.nm]; simp only []
  rw [Nat.add_mul_mod_self_left, Nat.mod_eq_of_lt hv]
end Go.Blk
