import Derived.Test.Qxb6500404aGreatNa
set_option linter.unusedVariables false
set_option linter.unusedSimpArgs false
namespace Go.Blk
/-! ### the run-length form of the list of lengths -/
/-- how many cells ahead equal x -/
def rn (x : Nat) : List Nat → Nat
  | [] => 0
  | y :: t => if y = x then rn x t + 1 else 0
theorem rn_le (x : Nat) : ∀ l, rn x l ≤ l.length
  | [] => Nat.le_refl _
  | y :: t => by
    have := rn_le x t
    rw [rn, List.length_cons]; split <;> omega
theorem rn_rep (x : Nat) (k : Nat) (l : List Nat) : rn x (List.replicate k x ++ l) = k + rn x l := by
  induction k with
  | zero => simp
  | succ k ih => rw [List.replicate_succ, List.cons_append, rn, if_pos rfl, ih]; omega
theorem rn_ne {x y : Nat} (h : y ≠ x) (t : List Nat) : rn x (y :: t) = 0 := by rw [rn, if_neg h]
/-- greedy from the left; pv: the length right before (or none); the first number is spare breath -/
def itF : Nat → Option Nat → List Nat → List (Nat × Nat × Nat)
  | 0, _, _ => []
  | _ + 1, _, [] => []
  | f + 1, pv, x :: t =>
    if x = 0 ∧ 3 ≤ rn x t + 1 then (11, min (rn x t + 1) 130 - 3, 7) :: itF f (some 0) (t.drop (min (rn x t + 1) 130 - 1))
    else if pv = some x ∧ 3 ≤ rn x t + 1 then (12, min (rn x t + 1) 6 - 3, 2) :: itF f (some x) (t.drop (min (rn x t + 1) 6 - 1))
    else (x, 0, 0) :: itF f (some x) t
theorem itF_eq : ∀ (f g : Nat) (pv : Option Nat) (l : List Nat), l.length ≤ f → l.length ≤ g → itF f pv l = itF g pv l
  | 0, 0, _, _, _, _ => rfl
  | 0, g + 1, _, [], _, _ => rfl
  | 0, g + 1, _, x :: t, h, _ => by simp at h
  | f + 1, 0, _, [], _, _ => rfl
  | f + 1, 0, _, x :: t, _, h => by simp at h
  | f + 1, g + 1, _, [], _, _ => rfl
  | f + 1, g + 1, pv, x :: t, h1, h2 => by
    rw [List.length_cons] at h1 h2
    have hd : ∀ k, (t.drop k).length ≤ t.length := fun k => by rw [List.length_drop]; omega
    rw [itF, itF, itF_eq f g (some 0) _ (Nat.le_trans (hd _) (by omega)) (Nat.le_trans (hd _) (by omega)), itF_eq f g (some x) _ (Nat.le_trans (hd (min (rn x t + 1) 6 - 1)) (by omega)) (Nat.le_trans (hd _) (by omega)), itF_eq f g (some x) t (by omega) (by omega)]
def itG (pv : Option Nat) (l : List Nat) : List (Nat × Nat × Nat) := itF l.length pv l
theorem itG_nil (pv : Option Nat) : itG pv [] = [] := rfl
theorem itG_cons (pv : Option Nat) (x : Nat) (t : List Nat) : itG pv (x :: t) = if x = 0 ∧ 3 ≤ rn x t + 1 then (11, min (rn x t + 1) 130 - 3, 7) :: itG (some 0) (t.drop (min (rn x t + 1) 130 - 1))
    else if pv = some x ∧ 3 ≤ rn x t + 1 then (12, min (rn x t + 1) 6 - 3, 2) :: itG (some x) (t.drop (min (rn x t + 1) 6 - 1))
    else (x, 0, 0) :: itG (some x) t := by
  have hd : ∀ k, (t.drop k).length ≤ t.length := fun k => by rw [List.length_drop]; omega
  unfold itG
  rw [List.length_cons, itF, itF_eq t.length _ (some 0) _ (hd _) (Nat.le_refl _), itF_eq t.length _ (some x) (t.drop (min (rn x t + 1) 6 - 1)) (hd _) (Nat.le_refl _)]
/-- what the machine gives out for held lengths equal to x -/
def runI (x held : Nat) : Nat × Nat × Nat := if x = 0 then (11, held - 3, 7) else (12, held - 3, 2)
def drn (x held : Nat) : List (Nat × Nat × Nat) := if 3 ≤ held then [runI x held] else List.replicate held (x, 0, 0)
/-- the machine: pv the length read last, held of them not yet given out -/
def mac (pv : Option Nat) (held : Nat) : List Nat → List (Nat × Nat × Nat)
  | [] => match pv with
    | none => []
    | some p => drn p held
  | x :: t => match pv with
    | none => if x = 0 then mac (some 0) 1 t else (x, 0, 0) :: mac (some x) 0 t
    | some p => if x = p then
        (if (p = 0 ∧ held + 1 = 130) ∨ (p ≠ 0 ∧ held + 1 = 6) then runI p (held + 1) :: mac (some p) 0 t else mac (some p) (held + 1) t)
      else drn p held ++ (if x = 0 then mac (some 0) 1 t else (x, 0, 0) :: mac (some x) 0 t)
theorem drop_rep (k : Nat) (x : Nat) (l : List Nat) : (List.replicate k x ++ l).drop k = l := by
  rw [List.drop_append_of_le_length (by simp), List.drop_of_length_le (by simp), List.nil_append]
theorem drop_rep' {k j : Nat} (x : Nat) (l : List Nat) (h : j ≤ k) : (List.replicate k x ++ l).drop j = List.replicate (k - j) x ++ l := by
  rw [List.drop_append_of_le_length (by simpa using h), List.drop_replicate]
/-- what is held goes out -/
theorem itG_drn {p held : Nat} {t : List Nat} (ht : rn p t = 0) (hb : if p = 0 then held < 130 else held < 6) : itG (some p) (List.replicate held p ++ t) = drn p held ++ itG (some p) t := by
  induction held with
  | zero => simp [drn]
  | succ k ih =>
    have hr : rn p (List.replicate k p ++ t) = k := by rw [rn_rep, ht]; omega
    rw [List.replicate_succ, List.cons_append, itG_cons, hr]
    by_cases h3 : 3 ≤ k + 1
    · unfold drn; rw [if_pos h3]
      by_cases h0 : p = 0
      · rw [if_pos h0] at hb
        rw [if_pos ⟨h0, h3⟩, show min (k + 1) 130 = k + 1 by omega, Nat.add_sub_cancel, drop_rep]
        unfold runI; rw [if_pos h0, h0]; rfl
      · rw [if_neg h0] at hb
        rw [if_neg (fun z => h0 z.1), if_pos ⟨rfl, h3⟩, show min (k + 1) 6 = k + 1 by omega, Nat.add_sub_cancel, drop_rep]
        unfold runI; rw [if_neg h0]; rfl
    · rw [if_neg (fun z => h3 z.2), if_neg (fun z => h3 z.2), ih (by split at hb <;> split <;> omega)]
      unfold drn; rw [if_neg (by omega), if_neg h3, List.replicate_succ]; rfl
/-- zeros ahead: what stands before does not matter -/
theorem itG_zero (pv pv' : Option Nat) (t : List Nat) : itG pv (0 :: t) = itG pv' (0 :: t) := by
  rw [itG_cons, itG_cons]
  by_cases h : 3 ≤ rn 0 t + 1
  · rw [if_pos ⟨rfl, h⟩, if_pos ⟨rfl, h⟩]
  · rw [if_neg (fun z => h z.2), if_neg (fun z => h z.2), if_neg (fun z => h z.2), if_neg (fun z => h z.2)]
theorem mac_itG : ∀ (t : List Nat) (pv : Option Nat) (held : Nat), (∀ p, pv = some p → if p = 0 then held < 130 else held < 6) → (pv = none → held = 0) → mac pv held t = itG pv (List.replicate held (pv.getD 0) ++ t) := by
  intro t
  induction t with
  | nil =>
    intro pv held h1 h2
    cases pv with
    | none => rw [h2 rfl]; simp [mac, itG_nil]
    | some p =>
      have := itG_drn (p := p) (held := held) (t := []) rfl (h1 p rfl)
      simp only [mac, Option.getD_some]; rw [this, itG_nil, List.append_nil]
  | cons x t ih =>
    intro pv held h1 h2
    have new : ∀ pv' : Option Nat, pv' ≠ some x → (if x = 0 then mac (some 0) 1 t else (x, 0, 0) :: mac (some x) 0 t) = itG pv' (x :: t) := by
      intro pv' hne
      by_cases h0 : x = 0
      · subst h0
        rw [if_pos rfl, ih (some 0) 1 (fun p e => by cases e; simp) (fun e => by cases e)]
        exact itG_zero _ _ _
      · rw [if_neg h0, ih (some x) 0 (fun p e => by cases e; rw [if_neg h0]; omega) (fun e => by cases e), itG_cons, if_neg (fun z => h0 z.1), if_neg (fun z => hne z.1)]
        rfl
    cases pv with
    | none =>
      rw [h2 rfl]
      simp only [mac, List.replicate_zero, List.nil_append]
      exact new none (by simp)
    | some p =>
      have hb := h1 p rfl
      simp only [mac, Option.getD_some]
      by_cases hx : x = p
      · subst hx
        rw [if_pos rfl]
        have hsh : List.replicate held x ++ x :: t = List.replicate (held + 1) x ++ t := by
          rw [List.replicate_succ', List.append_assoc]; rfl
        rw [hsh]
        by_cases hf : (x = 0 ∧ held + 1 = 130) ∨ (x ≠ 0 ∧ held + 1 = 6)
        · rw [if_pos hf, List.replicate_succ, List.cons_append, itG_cons, rn_rep, ih (some x) 0 (fun p e => by cases e; split <;> omega) (fun e => by cases e)]
          simp only [Option.getD_some, List.replicate_zero, List.nil_append]
          rcases hf with ⟨h0, hh⟩ | ⟨h0, hh⟩
          · rw [if_pos ⟨h0, by omega⟩, show min (held + rn x t + 1) 130 = held + 1 by omega, Nat.add_sub_cancel, drop_rep]
            unfold runI; rw [if_pos h0, h0]
          · rw [if_neg (fun z => h0 z.1), if_pos ⟨by trivial, by omega⟩, show min (held + rn x t + 1) 6 = held + 1 by omega, Nat.add_sub_cancel, drop_rep]
            unfold runI; rw [if_neg h0]
        · rw [if_neg hf, ih (some x) (held + 1) (fun p e => by cases e; by_cases h0 : x = 0; (rw [if_pos h0] at hb ⊢; omega); (rw [if_neg h0] at hb ⊢; omega)) (fun e => by cases e)]
          rfl
      · rw [if_neg hx, itG_drn (rn_ne hx t) hb]
        rw [new (some p) (fun e => by cases e; exact hx rfl)]
/-- the machine gives out the greedy form -/
theorem mac_is (l : List Nat) : mac none 0 l = itG none l := by
  have := mac_itG l none 0 (fun p e => by cases e) (fun _ => rfl)
  simpa using this
/-- an item, as it is laid -/
def ip (q : Nat × Nat × Nat) : List (Nat × Nat) := [(q.1, 4), (q.2.1, q.2.2)]
def ips (l : List (Nat × Nat × Nat)) : List (Nat × Nat) := l.flatMap ip
theorem ips_cons (q : Nat × Nat × Nat) (l : List (Nat × Nat × Nat)) : ips (q :: l) = (q.1, 4) :: (q.2.1, q.2.2) :: ips l := rfl
theorem ips_app (a b : List (Nat × Nat × Nat)) : ips (a ++ b) = ips a ++ ips b := by simp [ips]
/-- the bits of items -/
def ib : List (Nat × Nat × Nat) → Nat
  | [] => 0
  | q :: l => 4 + q.2.2 + ib l
theorem ib_app (a b : List (Nat × Nat × Nat)) : ib (a ++ b) = ib a + ib b := by
  induction a with
  | nil => simp [ib]
  | cons q l ih => simp only [List.cons_append, ib, ih]; omega
theorem ln_ips (l : List (Nat × Nat × Nat)) : ln (ips l) = ib l := by
  induction l with
  | nil => rfl
  | cons q l ih => rw [ips_cons, ln, ln, ih, ib]; omega
/-- every item of a list of lawful lengths is lawful -/
theorem itG_ok : ∀ (n : Nat) (l : List Nat) (pv : Option Nat), l.length ≤ n → (∀ x, x ∈ l → x ≤ 10) → Vd (ips (itG pv l)) ∧ ib (itG pv l) ≤ 4 * l.length := by
  intro n
  induction n with
  | zero => intro l pv hl _; obtain rfl : l = [] := List.eq_nil_of_length_eq_zero (by omega); rw [itG_nil]; exact ⟨Vd.nil, Nat.zero_le _⟩
  | succ n ih =>
    intro l pv hl hx
    cases l with
    | nil => rw [itG_nil]; exact ⟨Vd.nil, Nat.zero_le _⟩
    | cons x t =>
      have hx0 := hx x (by simp)
      rw [List.length_cons] at hl ⊢
      have hdr : ∀ k, (∀ y, y ∈ t.drop k → y ≤ 10) := fun k y hy => hx y (List.mem_cons_of_mem _ (List.mem_of_mem_drop hy))
      have hrt := rn_le x t
      rw [itG_cons]
      split
      · rename_i h
        obtain ⟨i1, i2⟩ := ih (t.drop (min (rn x t + 1) 130 - 1)) (some 0) (by rw [List.length_drop]; omega) (hdr _)
        rw [List.length_drop] at i2
        refine ⟨?_, by rw [ib]; simp only []; omega⟩
        rw [ips_cons]
        exact Vd.cons (by simp only []; omega) (by simp only []; omega) (Vd.cons (by simp only []; omega) (by simp only []; omega) i1)
      · split
        · rename_i h
          obtain ⟨i1, i2⟩ := ih (t.drop (min (rn x t + 1) 6 - 1)) (some x) (by rw [List.length_drop]; omega) (hdr _)
          rw [List.length_drop] at i2
          refine ⟨?_, by rw [ib]; simp only []; omega⟩
          rw [ips_cons]
          exact Vd.cons (by simp only []; omega) (by simp only []; omega) (Vd.cons (by simp only []; omega) (by simp only []; omega) i1)
        · obtain ⟨i1, i2⟩ := ih t (some x) (by omega) (fun y hy => hx y (List.mem_cons_of_mem _ hy))
          refine ⟨?_, by rw [ib]; simp only []; omega⟩
          rw [ips_cons]
          exact Vd.cons (by simp only []; omega) (by simp only []; omega) (Vd.cons (by simp) (by simp) i1)
end Go.Blk
