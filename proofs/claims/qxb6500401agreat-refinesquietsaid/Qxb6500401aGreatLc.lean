import Derived.Test.Qxb6500401aGreatLp
import Derived.Test.Qxb6500401aGreatEl
set_option linter.unusedVariables false
set_option linter.unusedSimpArgs false
namespace Go.Chk
open Go.Eng Go.Cnf
def gd (l : Int) : Prop := l ≠ 0 ∧ -12 ≤ l ∧ l ≤ 12
/-- a row in normal form -/
def Nrm (c : List Int) : Prop := (∀ l ∈ c, gd l) ∧ c.Pairwise (fun a b => a.natAbs < b.natAbs)
theorem Nrm.nil : Nrm [] := ⟨by simp, List.Pairwise.nil⟩
theorem Nrm.snoc {c : List Int} {x : Int} (h : Nrm c) (hx : gd x) (hl : ∀ y ∈ c, y.natAbs < x.natAbs) : Nrm (c ++ [x]) := by
  refine ⟨fun l hl2 => ?_, ?_⟩
  · rcases List.mem_append.1 hl2 with e | e
    · exact h.1 l e
    · simp at e; rw [e]; exact hx
  · rw [List.pairwise_append]
    exact ⟨h.2, List.pairwise_singleton _ _, fun a ha b hb => by simp at hb; subst hb; exact hl a ha⟩
theorem Nrm.inj {c : List Int} (h : Nrm c) {x y : Int} (hx : x ∈ c) (hy : y ∈ c) (e : x.natAbs = y.natAbs) : x = y := by
  obtain ⟨i, hi, rfl⟩ := List.getElem_of_mem hx
  obtain ⟨j, hj, rfl⟩ := List.getElem_of_mem hy
  rcases Nat.lt_trichotomy i j with f | f | f
  · have := (List.pairwise_iff_getElem.1 h.2) i j hi hj f; omega
  · subst f; rfl
  · have := (List.pairwise_iff_getElem.1 h.2) j i hj hi f; omega
theorem Nrm.nodup {c : List Int} (h : Nrm c) : c.Nodup := Go.Eng.pw_of (fun a e => by subst e; omega) h.2
theorem Nrm.len {c : List Int} (h : Nrm c) : c.length ≤ 12 := by
  have h1 : (c.map Int.natAbs).Nodup := by
    rw [List.Nodup, List.pairwise_map]; exact Go.Eng.pw_of (fun a e => by omega) h.2
  have h2 := h1.length_le_of_subset (l₂ := [1, 2, 3, 4, 5, 6, 7, 8, 9, 10, 11, 12]) (fun v hv => by
    rw [List.mem_map] at hv
    obtain ⟨x, hx, rfl⟩ := hv
    have := h.1 x hx
    unfold gd at this
    simp only [List.mem_cons, List.not_mem_nil, or_false]; omega)
  simpa using h2
abbrev Rw := Bool × List Int
def oneR (r : Rw) : List Int := (if r.1 then [13] else []) ++ r.2 ++ [0]
def flatR (rows : List Rw) : List Int := rows.flatMap oneR
def NrmR (rows : List Rw) : Prop := ∀ r ∈ rows, Nrm r.2
theorem dec : ∀ (l : List Int) (st : Bool) (last : Nat) (cur : List Int), (ckR ⟨st, last⟩ l).isSome = true → l.getLast? = some 0 → Nrm cur → (∀ x ∈ cur, x.natAbs ≤ last) → (st = true → cur = []) →
    ∃ (d : Bool) (t : List Int) (rows : List Rw), l = (if d then [13] else []) ++ t ++ [0] ++ flatR rows ∧ Nrm (cur ++ t) ∧ (d = true → st = true) ∧ NrmR rows
  | [], st, last, cur, h, hz, _, _, _ => by simp at hz
  | x :: r, st, last, cur, h, hz, hn, hl, hs => by
    simp only [ckR] at h
    unfold ckS at h
    by_cases h13 : x = 13 ∧ st = true
    · rw [if_pos h13] at h
      cases hr : r with
      | nil => rw [hr] at hz; simp at hz; omega
      | cons y r2 =>
        rw [hr] at h
        simp only [List.isEmpty_cons, Bool.false_eq_true, if_false, Option.bind_some] at h
        obtain ⟨d, t, rows, e1, e2, e3, e4⟩ := dec (y :: r2) false last [] h (by rw [hr] at hz; simpa [List.getLast?_cons] using hz) Nrm.nil (by simp) (by simp)
        have hd : d = false := by cases d; rfl; exact absurd (e3 rfl) (by simp)
        subst hd
        refine ⟨true, t, rows, ?_, by rw [hs h13.2]; exact e2, fun _ => h13.2, e4⟩
        rw [e1, h13.1]; simp
    · rw [if_neg h13] at h
      by_cases h0 : x = 0
      · rw [if_pos h0] at h
        simp only [Option.bind_some] at h
        cases hr : r with
        | nil => exact ⟨false, [], [], by rw [h0]; simp [flatR], by simpa using hn, by simp, by simp [NrmR]⟩
        | cons y r2 =>
          rw [hr] at h
          obtain ⟨d, t, rows, e1, e2, e3, e4⟩ := dec (y :: r2) true 0 [] h (by rw [hr] at hz; simpa [List.getLast?_cons] using hz) Nrm.nil (by simp) (by simp)
          refine ⟨false, [], (d, t) :: rows, ?_, by simpa using hn, by simp, fun q hq => ?_⟩
          · rw [e1, h0]; simp [flatR, oneR]
          · rcases List.mem_cons.1 hq with f | f
            · rw [f]; simpa using e2
            · exact e4 q f
      · rw [if_neg h0] at h
        by_cases hg : x ≠ 0 ∧ -12 ≤ x ∧ x ≤ 12
        · rw [if_neg (by simpa using hg)] at h
          by_cases hle : x.natAbs ≤ last
          · rw [if_pos hle] at h; simp at h
          · rw [if_neg hle] at h
            simp only [Option.bind_some] at h
            cases hr : r with
            | nil => rw [hr] at hz; simp at hz; exact absurd hz h0
            | cons y r2 =>
              rw [hr] at h
              obtain ⟨d, t, rows, e1, e2, e3, e4⟩ := dec (y :: r2) false x.natAbs (cur ++ [x]) h (by rw [hr] at hz; simpa [List.getLast?_cons] using hz) (hn.snoc hg (fun z hzz => by have := hl z hzz; omega)) (fun z hzz => by
                rcases List.mem_append.1 hzz with f | f
                · have := hl z f; omega
                · simp at f; rw [f]; omega) (by simp)
              have hd : d = false := by cases d; rfl; exact absurd (e3 rfl) (by simp)
              subst hd
              exact ⟨false, x :: t, rows, by rw [e1]; simp, by simpa using e2, by simp, e4⟩
        · rw [if_pos (by simpa using hg)] at h; simp at h
theorem flat_rows {l : List Int} (h : flatOk l = true) : ∃ rows, l = flatR rows ∧ NrmR rows := by
  unfold flatOk at h
  simp only [Bool.and_eq_true, Bool.or_eq_true, decide_eq_true_eq] at h
  rcases h.2 with e | e
  · exact ⟨[], by simpa [flatR] using e, by simp [NrmR]⟩
  · obtain ⟨d, t, rows, e1, e2, e3, e4⟩ := dec l true 0 [] h.1 e Nrm.nil (by simp) (by simp)
    refine ⟨(d, t) :: rows, by rw [e1]; simp [flatR, oneR], fun q hq => ?_⟩
    rcases List.mem_cons.1 hq with f | f
    · rw [f]; simpa using e2
    · exact e4 q f
theorem ck_lits : ∀ (c : List Int) (st : Bool) (last : Nat) (rest : List Int), Nrm c → (∀ x ∈ c, last < x.natAbs) → rest ≠ [] → ckR ⟨st, last⟩ (c ++ 0 :: rest) = ckR ⟨true, 0⟩ rest
  | [], st, last, rest, _, _, _ => by simp [ckR, ckS]
  | x :: c, st, last, rest, hn, hl, hr => by
    have hg := hn.1 x (by simp)
    unfold gd at hg
    simp only [List.cons_append, ckR]
    have : ckS ⟨st, last⟩ x (c ++ 0 :: rest).isEmpty = some ⟨false, x.natAbs⟩ := by
      unfold ckS
      have := hl x (by simp)
      rw [if_neg (by omega), if_neg (by omega), if_neg (by simpa using hg), if_neg (by simp only []; omega)]
    rw [this]
    simp only [Option.bind_some]
    exact ck_lits c false x.natAbs rest ⟨fun y hy => hn.1 y (by simp [hy]), (List.pairwise_cons.1 hn.2).2⟩ (fun y hy => (List.pairwise_cons.1 hn.2).1 y hy) hr
theorem ck_litsE : ∀ (c : List Int) (st : Bool) (last : Nat), Nrm c → (∀ x ∈ c, last < x.natAbs) → ckR ⟨st, last⟩ (c ++ [0]) = some ⟨true, 0⟩
  | [], st, last, _, _ => by simp [ckR, ckS]
  | x :: c, st, last, hn, hl => by
    have hg := hn.1 x (by simp)
    unfold gd at hg
    simp only [List.cons_append, ckR]
    have : ckS ⟨st, last⟩ x (c ++ [0]).isEmpty = some ⟨false, x.natAbs⟩ := by
      unfold ckS
      have := hl x (by simp)
      rw [if_neg (by omega), if_neg (by omega), if_neg (by simpa using hg), if_neg (by simp only []; omega)]
    rw [this]
    simp only [Option.bind_some]
    exact ck_litsE c false x.natAbs ⟨fun y hy => hn.1 y (by simp [hy]), (List.pairwise_cons.1 hn.2).2⟩ (fun y hy => (List.pairwise_cons.1 hn.2).1 y hy)
theorem rows_ck : ∀ rows : List Rw, NrmR rows → ckR ⟨true, 0⟩ (flatR rows) = some ⟨true, 0⟩
  | [], _ => rfl
  | (d, c) :: rows, h => by
    have hc : Nrm c := h (d, c) (by simp)
    have hg : ∀ x ∈ c, 0 < x.natAbs := fun x hx => by have := hc.1 x hx; unfold gd at this; omega
    have ih := rows_ck rows (fun r hr => h r (by simp [hr]))
    have e : flatR ((d, c) :: rows) = (if d then [13] else []) ++ (c ++ 0 :: flatR rows) := by simp [flatR, oneR]
    rw [e]
    have key : ∀ st, ckR ⟨st, 0⟩ (c ++ 0 :: flatR rows) = some ⟨true, 0⟩ := fun st => by
      cases hf : flatR rows with
      | nil => exact ck_litsE c st 0 hc hg
      | cons y r => rw [ck_lits c st 0 (y :: r) hc hg (by simp), ← hf]; exact ih
    cases d with
    | false => simpa using key true
    | true =>
      simp only [if_true, List.cons_append, List.nil_append, ckR]
      have : ckS ⟨true, 0⟩ 13 (c ++ 0 :: flatR rows).isEmpty = some ⟨false, 0⟩ := by
        unfold ckS; rw [if_pos ⟨rfl, rfl⟩]; simp
      rw [this]; exact key false
theorem rows_flat {rows : List Rw} (h : NrmR rows) : flatOk (flatR rows) = true := by
  unfold flatOk
  rw [rows_ck rows h]
  simp only [Option.isSome_some, Bool.true_and, Bool.or_eq_true, decide_eq_true_eq]
  cases rows with
  | nil => left; rfl
  | cons r rs =>
    right
    have : ∀ (rs : List Rw) (r : Rw), (flatR (r :: rs)).getLast? = some 0 := by
      intro rs
      induction rs with
      | nil => intro r; simp [flatR, oneR]
      | cons q qs ih => intro r; rw [show flatR (r :: q :: qs) = oneR r ++ flatR (q :: qs) by simp [flatR], List.getLast?_append, ih q]; simp
    exact this rs r
/-! ### unit propagation, by its end -/
def Con (S : Int → Prop) : Prop := ∀ l, S l → ¬ S (-l)
/-- the row is done with under S: some literal is true, or two are open -/
def Done (S : Int → Prop) (c : List Int) : Prop := (∃ l ∈ c, S l) ∨ ∃ x ∈ c, ∃ y ∈ c, x ≠ y ∧ ¬ S (-x) ∧ ¬ S (-y)
def Fix (R : List (List Int)) (on : Int → Prop) : Prop := ∃ S : Int → Prop, (∀ l, on l → S l) ∧ Con S ∧ ∀ c ∈ R, Done S c
theorem Fix.mono {R R' : List (List Int)} {on : Int → Prop} (h : Fix R on) (hs : ∀ c ∈ R', c ∈ R) : Fix R' on := by
  obtain ⟨S, a, b, c⟩ := h; exact ⟨S, a, b, fun r hr => c r (hs r hr)⟩
/-- all that T holds, every end holds -/
def Snd (R : List (List Int)) (on T : Int → Prop) : Prop := ∀ S : Int → Prop, (∀ l, on l → S l) → Con S → (∀ c ∈ R, Done S c) → ∀ l, T l → S l
theorem snd_unit {R : List (List Int)} {on T : Int → Prop} (h : Snd R on T) {c : List Int} (hc : c ∈ R) {l : Int} (hl : l ∈ c) (hf : ∀ x ∈ c, x ≠ l → T (-x)) : Snd R on (fun x => T x ∨ x = l) := by
  intro S h1 h2 h3 x hx
  rcases hx with hx | hx
  · exact h S h1 h2 h3 x hx
  · subst hx
    rcases h3 c hc with ⟨y, hy, hs⟩ | ⟨y, hy, z, hz, hne, hy2, hz2⟩
    · by_cases e : y = x
      · exact e ▸ hs
      · exact absurd (h S h1 h2 h3 _ (hf y hy e)) (h2 y hs)
    · exfalso
      by_cases e : y = x
      · have : z ≠ x := fun e2 => hne (e.trans e2.symm)
        exact hz2 (h S h1 h2 h3 _ (hf z hz this))
      · exact hy2 (h S h1 h2 h3 _ (hf y hy e))
theorem snd_hit {R : List (List Int)} {on T : Int → Prop} (h : Snd R on T) {c : List Int} (hc : c ∈ R) (hf : ∀ x ∈ c, T (-x)) : ¬ Fix R on := by
  rintro ⟨S, h1, h2, h3⟩
  rcases h3 c hc with ⟨y, hy, hs⟩ | ⟨y, hy, z, hz, hne, hy2, hz2⟩
  · exact h2 y hs (h S h1 h2 h3 _ (hf y hy))
  · exact hy2 (h S h1 h2 h3 _ (hf y hy))
theorem snd_refl (R : List (List Int)) (on : Int → Prop) : Snd R on on := fun S h1 _ _ l hl => h1 l hl
/-- the literals that deny a row -/
def deny (c : List Int) : Int → Prop := fun l => -l ∈ c
/-! ### truth -/
def tru (m : Nat) (l : Int) : Prop := if 0 < l then m.testBit (l.natAbs - 1) = true else m.testBit (l.natAbs - 1) = false
def sat (R : List (List Int)) (m : Nat) : Prop := ∀ c ∈ R, ∃ l ∈ c, tru m l
theorem tru_neg {m : Nat} {l : Int} (hl : l ≠ 0) : tru m (-l) ↔ ¬ tru m l := by
  unfold tru
  rw [Int.natAbs_neg]
  by_cases h : 0 < l
  · rw [if_neg (by omega), if_pos h]; simp
  · rw [if_pos (by omega), if_neg h]; simp
theorem rup_sound {R : List (List Int)} {c : List Int} {m : Nat} (hc : ∀ l ∈ c, l ≠ 0) (hR : ∀ r ∈ R, ∀ l ∈ r, l ≠ 0) (hs : sat R m) (hf : ¬ Fix R (deny c)) : ∃ l ∈ c, tru m l := by
  by_cases h : ∃ l ∈ c, tru m l
  · exact h
  · exfalso
    apply hf
    refine ⟨fun l => l ≠ 0 ∧ tru m l, fun l hl => ?_, fun l hl hl2 => ?_, fun r hr => ?_⟩
    · have h0 : -l ≠ 0 := hc _ hl
      refine ⟨by omega, ?_⟩
      have := (tru_neg (m := m) (l := -l) h0).2 (fun e => h ⟨-l, hl, e⟩)
      simpa using this
    · exact (tru_neg hl.1).1 hl2.2 hl.2
    · obtain ⟨l, hl, ht⟩ := hs r hr
      exact .inl ⟨l, hl, hR r hr l hl, ht⟩
end Go.Chk
