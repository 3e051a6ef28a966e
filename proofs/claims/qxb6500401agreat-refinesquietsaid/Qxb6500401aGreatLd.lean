import Derived.Test.Qxb6500401aGreatLc
import Derived.Test.Qxb6500401aGreatEm
set_option linter.unusedVariables false
set_option linter.unusedSimpArgs false
namespace Go.Chk
open Go.Eng Go.Cnf
/-! ### rows as two bit sets -/
def pM : List Int → Nat
  | [] => 0
  | x :: r => if 0 < x then 2 ^ (x.natAbs - 1) ||| pM r else pM r
def nM : List Int → Nat
  | [] => 0
  | x :: r => if 0 < x then nM r else 2 ^ (x.natAbs - 1) ||| nM r
theorem two_bit (a i : Nat) : (2 ^ a).testBit i = decide (a = i) := Nat.testBit_two_pow
theorem pM_bit {i : Nat} : ∀ {c : List Int}, (∀ l ∈ c, gd l) → ((pM c).testBit i = true ↔ ((i : Int) + 1) ∈ c)
  | [], _ => by simp [pM]
  | x :: r, h => by
    have ih := pM_bit (i := i) (c := r) (fun l hl => h l (by simp [hl]))
    have hg := h x (by simp)
    unfold gd at hg
    unfold pM
    split
    · rename_i hx
      rw [Nat.testBit_or, two_bit, Bool.or_eq_true, ih, List.mem_cons, decide_eq_true_eq]
      constructor
      · rintro (e | e)
        · left; omega
        · exact .inr e
      · rintro (e | e)
        · left; omega
        · exact .inr e
    · rename_i hx
      rw [ih, List.mem_cons]
      constructor
      · exact .inr
      · rintro (e | e)
        · omega
        · exact e
theorem nM_bit {i : Nat} : ∀ {c : List Int}, (∀ l ∈ c, gd l) → ((nM c).testBit i = true ↔ (-((i : Int) + 1)) ∈ c)
  | [], _ => by simp [nM]
  | x :: r, h => by
    have ih := nM_bit (i := i) (c := r) (fun l hl => h l (by simp [hl]))
    have hg := h x (by simp)
    unfold gd at hg
    unfold nM
    split
    · rename_i hx
      rw [ih, List.mem_cons]
      constructor
      · exact .inr
      · rintro (e | e)
        · omega
        · exact e
    · rename_i hx
      rw [Nat.testBit_or, two_bit, Bool.or_eq_true, ih, List.mem_cons, decide_eq_true_eq]
      constructor
      · rintro (e | e)
        · left; omega
        · exact .inr e
      · rintro (e | e)
        · left; omega
        · exact .inr e
theorem pM_lt : ∀ {c : List Int}, (∀ l ∈ c, gd l) → pM c < 4096
  | [], _ => by simp [pM]
  | x :: r, h => by
    have ih := pM_lt (c := r) (fun l hl => h l (by simp [hl]))
    have hg := h x (by simp)
    unfold gd at hg
    unfold pM
    split
    · exact Nat.or_lt_two_pow (n := 12) (Nat.pow_lt_pow_right (by omega) (by omega)) ih
    · exact ih
theorem nM_lt : ∀ {c : List Int}, (∀ l ∈ c, gd l) → nM c < 4096
  | [], _ => by simp [nM]
  | x :: r, h => by
    have ih := nM_lt (c := r) (fun l hl => h l (by simp [hl]))
    have hg := h x (by simp)
    unfold gd at hg
    unfold nM
    split
    · exact ih
    · exact Nat.or_lt_two_pow (n := 12) (Nat.pow_lt_pow_right (by omega) (by omega)) ih
theorem pM_snoc (c : List Int) (x : Int) : pM (c ++ [x]) = if 0 < x then pM c ||| 2 ^ (x.natAbs - 1) else pM c := by
  induction c with
  | nil => simp only [List.nil_append, pM]; split <;> simp
  | cons y r ih => simp only [List.cons_append, pM, ih]; split <;> split <;> simp [Nat.or_assoc]
theorem nM_snoc (c : List Int) (x : Int) : nM (c ++ [x]) = if 0 < x then nM c else nM c ||| 2 ^ (x.natAbs - 1) := by
  induction c with
  | nil => simp only [List.nil_append, nM]; split <;> simp
  | cons y r ih => simp only [List.cons_append, nM, ih]; split <;> split <;> simp [Nat.or_assoc]
theorem mem_bits {c : List Int} (h : ∀ l ∈ c, gd l) {l : Int} (hl : gd l) : l ∈ c ↔ if 0 < l then (pM c).testBit (l.natAbs - 1) = true else (nM c).testBit (l.natAbs - 1) = true := by
  unfold gd at hl
  split
  · rw [pM_bit h, show ((l.natAbs - 1 : Nat) : Int) + 1 = l by omega]
  · rw [nM_bit h, show -(((l.natAbs - 1 : Nat) : Int) + 1) = l by omega]
theorem asc_eq : ∀ {a b : List Int}, a.Pairwise (fun x y => x.natAbs < y.natAbs) → b.Pairwise (fun x y => x.natAbs < y.natAbs) → (∀ l, l ∈ a ↔ l ∈ b) → a = b
  | [], [], _, _, _ => rfl
  | [], y :: b, _, _, h => by have := (h y).2 (by simp); simp at this
  | x :: a, [], _, _, h => by have := (h x).1 (by simp); simp at this
  | x :: a, y :: b, ha, hb, h => by
    have hxy : x = y := by
      have h1 := (h x).1 (by simp)
      have h2 := (h y).2 (by simp)
      rcases List.mem_cons.1 h1 with e | e
      · exact e
      · rcases List.mem_cons.1 h2 with f | f
        · exact f.symm
        · have := (List.pairwise_cons.1 hb).1 x e; have := (List.pairwise_cons.1 ha).1 y f; omega
    subst hxy
    rw [asc_eq (List.pairwise_cons.1 ha).2 (List.pairwise_cons.1 hb).2 fun l => ?_]
    constructor
    · intro hl
      rcases List.mem_cons.1 ((h l).1 (by simp [hl])) with e | e
      · subst e; have := (List.pairwise_cons.1 ha).1 l hl; omega
      · exact e
    · intro hl
      rcases List.mem_cons.1 ((h l).2 (by simp [hl])) with e | e
      · subst e; have := (List.pairwise_cons.1 hb).1 l hl; omega
      · exact e
theorem Nrm.eq {a b : List Int} (ha : Nrm a) (hb : Nrm b) (hp : pM a = pM b) (hn : nM a = nM b) : a = b := by
  refine asc_eq ha.2 hb.2 fun l => ?_
  constructor
  · intro hl; exact (mem_bits hb.1 (ha.1 l hl)).2 (by rw [← hp, ← hn]; exact (mem_bits ha.1 (ha.1 l hl)).1 hl)
  · intro hl; exact (mem_bits ha.1 (hb.1 l hl)).2 (by rw [hp, hn]; exact (mem_bits hb.1 (hb.1 l hl)).1 hl)
theorem Nrm.disj {c : List Int} (h : Nrm c) : pM c &&& nM c = 0 := by
  refine Nat.eq_of_testBit_eq fun i => ?_
  rw [Nat.testBit_and, Nat.zero_testBit]
  by_cases h1 : (pM c).testBit i = true
  · by_cases h2 : (nM c).testBit i = true
    · have e := h.inj ((pM_bit h.1).1 h1) ((nM_bit h.1).1 h2) (by omega); omega
    · simp [h2]
  · simp [h1]
theorem Nrm.empty {c : List Int} (h : Nrm c) : pM c ||| nM c = 0 ↔ c = [] := by
  constructor
  · intro e
    cases c with
    | nil => rfl
    | cons x r =>
      have hx := (mem_bits h.1 (h.1 x (by simp))).1 (by simp)
      have hz : ∀ i, (pM (x :: r)).testBit i = false ∧ (nM (x :: r)).testBit i = false := fun i => by
        have := congrArg (fun y => y.testBit i) e
        simpa [Nat.testBit_or] using this
      split at hx
      · rw [(hz _).1] at hx; cases hx
      · rw [(hz _).2] at hx; cases hx
  · intro e; subst e; rfl
/-! ### an assignment as two bit sets -/
def tl (y n : Nat) (l : Int) : Prop := gd l ∧ if 0 < l then y.testBit (l.natAbs - 1) = true else n.testBit (l.natAbs - 1) = true
theorem tl_con {y n : Nat} (h : y &&& n = 0) : Con (tl y n) := by
  intro l h1 h2
  obtain ⟨hg, h1⟩ := h1
  obtain ⟨_, h2⟩ := h2
  unfold gd at hg
  rw [Int.natAbs_neg] at h2
  have hb := congrArg (fun x => x.testBit (l.natAbs - 1)) h
  simp only [Nat.testBit_and, Nat.zero_testBit] at hb
  by_cases hl : 0 < l
  · rw [if_pos hl] at h1; rw [if_neg (by omega)] at h2; rw [h1, h2] at hb; cases hb
  · rw [if_neg hl] at h1; rw [if_pos (by omega)] at h2; rw [h1, h2] at hb; cases hb
theorem deny_tl {c : List Int} (h : ∀ l ∈ c, gd l) {l : Int} : deny c l ↔ tl (nM c) (pM c) l := by
  unfold deny tl
  constructor
  · intro hl
    have hg := h _ hl
    have hg2 : gd l := by unfold gd at *; omega
    refine ⟨hg2, ?_⟩
    have := (mem_bits h hg).1 hl
    rw [Int.natAbs_neg] at this
    unfold gd at hg2
    split at this
    · rw [if_neg (by omega)]; exact this
    · rw [if_pos (by omega)]; exact this
  · rintro ⟨hg, h1⟩
    have hg2 : gd (-l) := by unfold gd at *; omega
    rw [mem_bits h hg2, Int.natAbs_neg]
    unfold gd at hg
    split at h1
    · rw [if_neg (by omega)]; exact h1
    · rw [if_pos (by omega)]; exact h1
/-- how many variables have a value -/
def vcnt (y n : Nat) : Nat := ((List.range 12).filter fun i => (y ||| n).testBit i).length
theorem vcnt_le (y n : Nat) : vcnt y n ≤ 12 := by unfold vcnt; exact Nat.le_trans (List.length_filter_le _ _) (by simp)
theorem filt_lt {p q : Nat → Bool} (hpq : ∀ i, p i = true → q i = true) {v : Nat} (hp : p v = false) (hq : q v = true) : ∀ n, v < n → ((List.range n).filter p).length < ((List.range n).filter q).length
  | 0, h => by omega
  | n + 1, h => by
    rw [List.range_succ, List.filter_append, List.filter_append, List.length_append, List.length_append]
    have mono : ∀ m, ((List.range m).filter p).length ≤ ((List.range m).filter q).length := fun m => by
      induction m with
      | zero => simp
      | succ m ih =>
        rw [List.range_succ, List.filter_append, List.filter_append, List.length_append, List.length_append]
        have : ([m].filter p).length ≤ ([m].filter q).length := by
          by_cases e : p m = true
          · simp [e, hpq m e]
          · simp [e]
        omega
    by_cases e : v = n
    · subst e
      have := mono v
      simp [hp, hq]; omega
    · have ih := filt_lt hpq hp hq n (by omega)
      have : ([n].filter p).length ≤ ([n].filter q).length := by
        by_cases e2 : p n = true
        · simp [e2, hpq n e2]
        · simp [e2]
      omega
theorem vcnt_up {y n y' n' : Nat} (hy : ∀ i, y.testBit i = true → y'.testBit i = true) (hn : ∀ i, n.testBit i = true → n'.testBit i = true) {v : Nat} (hv : v < 12) (h0 : (y ||| n).testBit v = false) (h1 : (y' ||| n').testBit v = true) : vcnt y n < vcnt y' n' := by
  unfold vcnt
  refine filt_lt (fun i hi => ?_) h0 h1 12 hv
  rw [Nat.testBit_or, Bool.or_eq_true] at hi ⊢
  exact (Or.elim hi (fun q => .inl (hy i q)) (fun q => .inr (hn i q)))
def one (x : Nat) : Prop := x ≠ 0 ∧ x &&& (x - 1) = 0
theorem one_pow (x : Nat) : x ≠ 0 → x &&& (x - 1) = 0 → ∃ i, x = 2 ^ i := by
  induction x using Nat.strongRecOn with
  | _ x ih =>
    intro h0 h
    have hb : ∀ i, (x.testBit i && (x - 1).testBit i) = false := fun i => by
      have := congrArg (fun y => y.testBit i) h
      simpa [Nat.testBit_and] using this
    rcases Nat.mod_two_eq_zero_or_one x with e | e
    · have hy : x / 2 &&& (x / 2 - 1) = 0 := by
        refine Nat.eq_of_testBit_eq fun i => ?_
        rw [Nat.testBit_and, Nat.zero_testBit]
        have := hb (i + 1)
        rw [Nat.testBit_succ, Nat.testBit_succ, show (x - 1) / 2 = x / 2 - 1 by omega] at this
        exact this
      obtain ⟨i, hi⟩ := ih (x / 2) (by omega) (by omega) hy
      exact ⟨i + 1, by rw [Nat.pow_succ, ← hi]; omega⟩
    · by_cases h1 : x = 1
      · exact ⟨0, by omega⟩
      · exfalso
        have hz : x / 2 = 0 := by
          refine Nat.eq_of_testBit_eq fun i => ?_
          rw [Nat.zero_testBit]
          have := hb (i + 1)
          rw [Nat.testBit_succ, Nat.testBit_succ, show (x - 1) / 2 = x / 2 by omega, Bool.and_self] at this
          exact this
        omega
theorem pow_one (i : Nat) : 2 ^ i ≠ 0 ∧ 2 ^ i &&& (2 ^ i - 1) = 0 := by
  have := Nat.two_pow_pos i
  refine ⟨by omega, ?_⟩
  rw [Nat.and_two_pow_sub_one_eq_mod, Nat.mod_self]
theorem one_iff {x : Nat} (hx : x < 4096) : one x ↔ ∃ i, i < 12 ∧ x = 2 ^ i := by
  constructor
  · intro h
    obtain ⟨i, hi⟩ := one_pow x h.1 h.2
    refine ⟨i, ?_, hi⟩
    rcases Nat.lt_or_ge i 12 with e | e
    · exact e
    · have := Nat.pow_le_pow_right (n := 2) (by omega) e
      omega
  · rintro ⟨i, hi, rfl⟩; exact pow_one i
theorem bit_ex {x : Nat} (h : x ≠ 0) : ∃ i, x.testBit i = true := by
  by_cases e : ∃ i, x.testBit i = true
  · exact e
  · exfalso; apply h; refine Nat.eq_of_testBit_eq fun i => ?_
    rw [Nat.zero_testBit]; by_cases f : x.testBit i = true
    · exact absurd ⟨i, f⟩ e
    · simpa using f
theorem bit_lt {x i : Nat} (hx : x < 4096) (h : x.testBit i = true) : i < 12 := by
  rcases Nat.lt_or_ge i 12 with e | e
  · exact e
  · rw [Nat.testBit_lt_two_pow (Nat.lt_of_lt_of_le hx (show 4096 ≤ 2 ^ i from Nat.pow_le_pow_right (n := 2) (i := 12) (by omega) e))] at h; cases h
theorem two_ex {x : Nat} (hx : x < 4096) (h0 : x ≠ 0) (h1 : ¬ one x) : ∃ i j, i ≠ j ∧ x.testBit i = true ∧ x.testBit j = true := by
  obtain ⟨i, hi⟩ := bit_ex h0
  have hne : x ≠ 2 ^ i := fun e => h1 ((one_iff hx).2 ⟨i, bit_lt hx hi, e⟩)
  by_cases e : ∃ j, j ≠ i ∧ x.testBit j = true
  · obtain ⟨j, h2, h3⟩ := e; exact ⟨i, j, h2.symm, hi, h3⟩
  · exfalso; apply hne; refine Nat.eq_of_testBit_eq fun j => ?_
    rw [two_bit]
    by_cases f : i = j
    · subst f; simp [hi]
    · simp only [f, decide_false]
      by_cases g : x.testBit j = true
      · exact absurd ⟨j, fun x => f x.symm, g⟩ e
      · simpa using g
end Go.Chk
