import Derived.Test.Qxb6500401aGreatLd
set_option linter.unusedVariables false
set_option linter.unusedSimpArgs false
namespace Go.Chk
open Go.Eng Go.Cnf
section row
variable {c : List Int} {y o : Nat}
theorem row_true (hc : Nrm c) (h : (pM c &&& y) ||| (nM c &&& o) ≠ 0) : ∃ l ∈ c, tl y o l := by
  obtain ⟨i, hi⟩ := bit_ex h
  rw [Nat.testBit_or, Nat.testBit_and, Nat.testBit_and, Bool.or_eq_true, Bool.and_eq_true, Bool.and_eq_true] at hi
  rcases hi with ⟨h1, h2⟩ | ⟨h1, h2⟩
  · have hm := (pM_bit hc.1).1 h1
    exact ⟨_, hm, hc.1 _ hm, by rw [if_pos (by omega), show ((i : Int) + 1).natAbs - 1 = i by omega]; exact h2⟩
  · have hm := (nM_bit hc.1).1 h1
    exact ⟨_, hm, hc.1 _ hm, by rw [if_neg (by omega), show (-((i : Int) + 1)).natAbs - 1 = i by omega]; exact h2⟩
theorem row_not (hc : Nrm c) (h : (pM c &&& y) ||| (nM c &&& o) = 0) {l : Int} (hl : l ∈ c) : ¬ tl y o l := by
  rintro ⟨hg, ht⟩
  have hb := congrArg (fun x => x.testBit (l.natAbs - 1)) h
  simp only [Nat.testBit_or, Nat.testBit_and, Nat.zero_testBit] at hb
  have hm := (mem_bits hc.1 hg).1 hl
  split at hm
  · rename_i hp; rw [if_pos hp] at ht; rw [hm, ht] at hb; simp at hb
  · rename_i hp; rw [if_neg hp] at ht; rw [hm, ht] at hb; simp at hb
/-- a literal that is neither true nor open is false -/
theorem row_false (hc : Nrm c) (h : (pM c &&& y) ||| (nM c &&& o) = 0) {l : Int} (hl : l ∈ c) (ho : if 0 < l then (wo (pM c) (y ||| o)).testBit (l.natAbs - 1) = false else (wo (nM c) (y ||| o)).testBit (l.natAbs - 1) = false) : tl y o (-l) := by
  have hg := hc.1 l hl
  have hm := (mem_bits hc.1 hg).1 hl
  have hn := row_not hc h hl
  have hg2 : gd (-l) := by unfold gd at *; omega
  refine ⟨hg2, ?_⟩
  rw [Int.natAbs_neg]
  unfold gd at hg
  by_cases hp : 0 < l
  · rw [if_pos hp] at ho hm
    rw [wo_bit, hm, Nat.testBit_or] at ho
    rw [if_neg (by omega)]
    have : y.testBit (l.natAbs - 1) ≠ true := fun e => hn ⟨hc.1 l hl, by rw [if_pos hp]; exact e⟩
    simp at ho; simpa [this] using ho
  · rw [if_neg hp] at ho hm
    rw [wo_bit, hm, Nat.testBit_or] at ho
    rw [if_pos (by omega)]
    have : o.testBit (l.natAbs - 1) ≠ true := fun e => hn ⟨hc.1 l hl, by rw [if_neg hp]; exact e⟩
    simp at ho; simpa [this] using ho
theorem open_p (hc : Nrm c) {i : Nat} (hi : (wo (pM c) (y ||| o)).testBit i = true) : ((i : Int) + 1) ∈ c ∧ ¬ tl y o (-((i : Int) + 1)) ∧ y.testBit i = false ∧ o.testBit i = false := by
  rw [wo_bit, Nat.testBit_or, Bool.and_eq_true] at hi
  have h2 : y.testBit i = false ∧ o.testBit i = false := by simpa using hi.2
  refine ⟨(pM_bit hc.1).1 hi.1, fun ht => ?_, h2⟩
  have := ht.2
  rw [if_neg (by omega), show (-((i : Int) + 1)).natAbs - 1 = i by omega, h2.2] at this; cases this
theorem open_n (hc : Nrm c) {i : Nat} (hi : (wo (nM c) (y ||| o)).testBit i = true) : (-((i : Int) + 1)) ∈ c ∧ ¬ tl y o (-(-((i : Int) + 1))) ∧ y.testBit i = false ∧ o.testBit i = false := by
  rw [wo_bit, Nat.testBit_or, Bool.and_eq_true] at hi
  have h2 : y.testBit i = false ∧ o.testBit i = false := by simpa using hi.2
  refine ⟨(nM_bit hc.1).1 hi.1, fun ht => ?_, h2⟩
  have := ht.2
  rw [if_pos (by omega), show (-(-((i : Int) + 1))).natAbs - 1 = i by omega, h2.1] at this; cases this
theorem row_hit (hc : Nrm c) {R : List (List Int)} {on : Int → Prop} (hs : Snd R on (tl y o)) (hR : c ∈ R) (h : (pM c &&& y) ||| (nM c &&& o) = 0) (ho : wo (pM c) (y ||| o) ||| wo (nM c) (y ||| o) = 0) : ¬ Fix R on := by
  refine snd_hit hs hR fun x hx => row_false hc h hx ?_
  have hz : ∀ i, (wo (pM c) (y ||| o)).testBit i = false ∧ (wo (nM c) (y ||| o)).testBit i = false := fun i => by
    have := congrArg (fun z => z.testBit i) ho
    simpa [Nat.testBit_or] using this
  split
  · exact (hz _).1
  · exact (hz _).2
theorem row_two_p (hc : Nrm c) (hy : y < 4096) (hp : wo (pM c) (y ||| o) ≠ 0) (h1 : ¬ one (wo (pM c) (y ||| o))) : Done (tl y o) c := by
  obtain ⟨i, j, hij, hi, hj⟩ := two_ex (wo_lt (n := 12) (pM_lt hc.1)) hp h1
  obtain ⟨a1, a2, _⟩ := open_p hc hi
  obtain ⟨b1, b2, _⟩ := open_p hc hj
  exact .inr ⟨_, a1, _, b1, by omega, a2, b2⟩
theorem row_two_n (hc : Nrm c) (hp : wo (nM c) (y ||| o) ≠ 0) (h1 : ¬ one (wo (nM c) (y ||| o))) : Done (tl y o) c := by
  obtain ⟨i, j, hij, hi, hj⟩ := two_ex (wo_lt (n := 12) (nM_lt hc.1)) hp h1
  obtain ⟨a1, a2, _⟩ := open_n hc hi
  obtain ⟨b1, b2, _⟩ := open_n hc hj
  exact .inr ⟨_, a1, _, b1, by omega, a2, b2⟩
theorem row_two (hc : Nrm c) (hp : wo (pM c) (y ||| o) ≠ 0) (hn : wo (nM c) (y ||| o) ≠ 0) : Done (tl y o) c := by
  obtain ⟨i, hi⟩ := bit_ex hp
  obtain ⟨j, hj⟩ := bit_ex hn
  obtain ⟨a1, a2, _⟩ := open_p hc hi
  obtain ⟨b1, b2, _⟩ := open_n hc hj
  exact .inr ⟨_, a1, _, b1, by omega, a2, b2⟩
theorem row_unit_p (hc : Nrm c) {R : List (List Int)} {on : Int → Prop} (hs : Snd R on (tl y o)) (hR : c ∈ R) (h : (pM c &&& y) ||| (nM c &&& o) = 0) (hn : wo (nM c) (y ||| o) = 0) (h1 : one (wo (pM c) (y ||| o))) (hd : y &&& o = 0) (hy : y < 4096) :
    Snd R on (tl (y ||| wo (pM c) (y ||| o)) o) ∧ (y ||| wo (pM c) (y ||| o)) &&& o = 0 ∧ y ||| wo (pM c) (y ||| o) < 4096 ∧ vcnt y o < vcnt (y ||| wo (pM c) (y ||| o)) o := by
  obtain ⟨i, hi, hx⟩ := (one_iff (wo_lt (n := 12) (pM_lt hc.1))).1 h1
  have hb : ∀ j, (wo (pM c) (y ||| o)).testBit j = decide (i = j) := fun j => by rw [hx, two_bit]
  obtain ⟨m1, m2, m3, m4⟩ := open_p hc (show (wo (pM c) (y ||| o)).testBit i = true by rw [hb]; simp)
  refine ⟨?_, ?_, Nat.or_lt_two_pow (n := 12) hy (wo_lt (n := 12) (pM_lt hc.1)), ?_⟩
  · intro S h2 h3 h4 l hl
    refine snd_unit hs hR m1 (fun x hxm hne => row_false hc h hxm ?_) S h2 h3 h4 l ?_
    · have hg := hc.1 x hxm
      unfold gd at hg
      split
      · rw [hb]; simp; omega
      · rw [hn, Nat.zero_testBit]
    · obtain ⟨hg, ht⟩ := hl
      unfold gd at hg
      by_cases hp : 0 < l
      · rw [if_pos hp, Nat.testBit_or, hb, Bool.or_eq_true, decide_eq_true_eq] at ht
        rcases ht with ht | ht
        · exact .inl ⟨hg, by rw [if_pos hp]; exact ht⟩
        · exact .inr (by omega)
      · rw [if_neg hp] at ht; exact .inl ⟨hg, by rw [if_neg hp]; exact ht⟩
  · refine Nat.eq_of_testBit_eq fun j => ?_
    have := congrArg (fun z => z.testBit j) hd
    simp only [Nat.testBit_and, Nat.zero_testBit] at this
    rw [Nat.testBit_and, Nat.testBit_or, hb, Nat.zero_testBit]
    by_cases e : i = j
    · subst e; simp [m4]
    · simp [e, this]
  · refine vcnt_up (fun j hj => by rw [Nat.testBit_or, hj]; rfl) (fun j hj => hj) hi (by rw [Nat.testBit_or, m3, m4]; rfl) (by rw [Nat.testBit_or, Nat.testBit_or, hb]; simp)
theorem row_unit_n (hc : Nrm c) {R : List (List Int)} {on : Int → Prop} (hs : Snd R on (tl y o)) (hR : c ∈ R) (h : (pM c &&& y) ||| (nM c &&& o) = 0) (hn : wo (pM c) (y ||| o) = 0) (h1 : one (wo (nM c) (y ||| o))) (hd : y &&& o = 0) (hy : o < 4096) :
    Snd R on (tl y (o ||| wo (nM c) (y ||| o))) ∧ y &&& (o ||| wo (nM c) (y ||| o)) = 0 ∧ o ||| wo (nM c) (y ||| o) < 4096 ∧ vcnt y o < vcnt y (o ||| wo (nM c) (y ||| o)) := by
  obtain ⟨i, hi, hx⟩ := (one_iff (wo_lt (n := 12) (nM_lt hc.1))).1 h1
  have hb : ∀ j, (wo (nM c) (y ||| o)).testBit j = decide (i = j) := fun j => by rw [hx, two_bit]
  obtain ⟨m1, m2, m3, m4⟩ := open_n hc (show (wo (nM c) (y ||| o)).testBit i = true by rw [hb]; simp)
  refine ⟨?_, ?_, Nat.or_lt_two_pow (n := 12) hy (wo_lt (n := 12) (nM_lt hc.1)), ?_⟩
  · intro S h2 h3 h4 l hl
    refine snd_unit hs hR m1 (fun x hxm hne => row_false hc h hxm ?_) S h2 h3 h4 l ?_
    · have hg := hc.1 x hxm
      unfold gd at hg
      split
      · rw [hn, Nat.zero_testBit]
      · rw [hb]; simp; omega
    · obtain ⟨hg, ht⟩ := hl
      unfold gd at hg
      by_cases hp : 0 < l
      · rw [if_pos hp] at ht; exact .inl ⟨hg, by rw [if_pos hp]; exact ht⟩
      · rw [if_neg hp, Nat.testBit_or, hb, Bool.or_eq_true, decide_eq_true_eq] at ht
        rcases ht with ht | ht
        · exact .inl ⟨hg, by rw [if_neg hp]; exact ht⟩
        · exact .inr (by omega)
  · refine Nat.eq_of_testBit_eq fun j => ?_
    have := congrArg (fun z => z.testBit j) hd
    simp only [Nat.testBit_and, Nat.zero_testBit] at this
    rw [Nat.testBit_and, Nat.testBit_or, hb, Nat.zero_testBit]
    by_cases e : i = j
    · subst e; simp [m3]
    · simp [e, this]
  · refine vcnt_up (fun j hj => hj) (fun j hj => by rw [Nat.testBit_or, hj]; rfl) hi (by rw [Nat.testBit_or, m3, m4]; rfl) (by rw [Nat.testBit_or, Nat.testBit_or, hb]; simp)
end row
/-! ### the store's slots -/
def rowsS (sl : Nat → Option (List Int)) (n : Nat) : List (List Int) := (List.range n).filterMap sl
theorem mem_rows {sl : Nat → Option (List Int)} {n : Nat} {c : List Int} : c ∈ rowsS sl n ↔ ∃ i, i < n ∧ sl i = some c := by
  unfold rowsS; rw [List.mem_filterMap]; simp [List.mem_range]
def ups (sl : Nat → Option (List Int)) (s : Nat) (x : Option (List Int)) : Nat → Option (List Int) := fun i => if i = s then x else sl i
theorem rowsS_succ (sl : Nat → Option (List Int)) (n : Nat) : rowsS sl (n + 1) = rowsS sl n ++ (sl n).toList := by
  unfold rowsS; rw [List.range_succ, List.filterMap_append]; cases h : sl n <;> simp [h]
theorem rows_ups {sl : Nat → Option (List Int)} {s : Nat} {x : Option (List Int)} : ∀ n, n ≤ s → rowsS (ups sl s x) n = rowsS sl n
  | 0, _ => rfl
  | n + 1, h => by rw [rowsS_succ, rowsS_succ, rows_ups n (by omega)]; simp [ups, show n ≠ s by omega]
/-- a row goes into a free slot -/
theorem rows_put {sl : Nat → Option (List Int)} {s : Nat} {c : List Int} (hs : sl s = none) : ∀ n, s < n → (rowsS (ups sl s (some c)) n).Perm (rowsS sl n ++ [c])
  | 0, h => by omega
  | n + 1, h => by
    rw [rowsS_succ, rowsS_succ]
    by_cases e : s = n
    · subst e; rw [rows_ups s (Nat.le_refl _), hs]; simp [ups]
    · have ih := rows_put (c := c) hs n (by omega)
      rw [show ups sl s (some c) n = sl n by simp [ups, show n ≠ s by omega]]
      refine (ih.append_right _).trans ?_
      rw [List.append_assoc, List.append_assoc]
      exact List.Perm.append_left _ List.perm_append_comm
theorem rows_drop {sl : Nat → Option (List Int)} {s : Nat} {c : List Int} (hs : sl s = some c) : ∀ n, s < n → (rowsS sl n).Perm (rowsS (ups sl s none) n ++ [c])
  | 0, h => by omega
  | n + 1, h => by
    rw [rowsS_succ, rowsS_succ]
    by_cases e : s = n
    · subst e; rw [rows_ups s (Nat.le_refl _), hs]; simp [ups]
    · have ih := rows_drop hs n (by omega)
      rw [show ups sl s none n = sl n by simp [ups, show n ≠ s by omega]]
      refine (ih.append_right _).trans ?_
      rw [List.append_assoc, List.append_assoc]
      exact List.Perm.append_left _ List.perm_append_comm
theorem rows_len {sl : Nat → Option (List Int)} : ∀ n, (rowsS sl n).length ≤ n ∧ ((∀ i, i < n → sl i ≠ none) ↔ (rowsS sl n).length = n)
  | 0 => by simp [rowsS]
  | n + 1 => by
    have ih := rows_len (sl := sl) n
    rw [rowsS_succ, List.length_append]
    cases h : sl n with
    | none =>
      simp only [Option.toList_none, List.length_nil, Nat.add_zero]
      refine ⟨by omega, ⟨fun f => absurd h (f n (by omega)), fun f => by omega⟩⟩
    | some c =>
      simp only [Option.toList_some, List.length_singleton]
      refine ⟨by omega, ⟨fun f => by rw [ih.2.1 (fun i hi => f i (by omega))], fun f i hi => ?_⟩⟩
      by_cases e : i = n
      · subst e; rw [h]; simp
      · exact ih.2.2 (by omega) i (by omega)
def ecnt (R : List (List Int)) : Nat := (R.filter fun c => c.isEmpty).length
theorem ecnt_perm {R R' : List (List Int)} (h : R.Perm R') : ecnt R = ecnt R' := (h.filter _).length_eq
theorem ecnt_snoc (R : List (List Int)) (c : List Int) : ecnt (R ++ [c]) = ecnt R + if c = [] then 1 else 0 := by
  unfold ecnt; rw [List.filter_append, List.length_append]
  cases c with
  | nil => simp
  | cons x r => simp
end Go.Chk
