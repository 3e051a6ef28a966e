import Derived.Test.Qxb6500400aGreatYf
set_option linter.unusedVariables false
set_option linter.unusedSimpArgs false
namespace Go.Proofs.Qxb6500400aGreat
open Go.Eng Go.Trl Go.Chk Go.Wat

/-- a clause as a set of indices -/
structure Cs (s : TS) (c : List Int) (I : Nat → Bool) : Prop where
  nd : c.Nodup
  mem : ∀ x, x ∈ c ↔ ∃ i, i < s.L.length ∧ ltF s i = -x ∧ I i = true
theorem Cs.of {s : TS} {c : List Int} (hn : c.Nodup) (hf : Fal s c) : Cs s c (iC s c) := ⟨hn, fun x => by
  constructor
  · intro hx
    obtain ⟨i, i1, i2⟩ := hf x hx
    exact ⟨i, i1, i2, by unfold iC; exact decide_eq_true ⟨i1, by rw [i2, Int.neg_neg]; exact hx⟩⟩
  · rintro ⟨i, i1, i2, i3⟩
    unfold iC at i3
    have := (of_decide_eq_true i3).2
    rw [i2, Int.neg_neg] at this; exact this⟩
section cs
variable {s : TS} {c : List Int} {I : Nat → Bool}
theorem Cs.gd (hok : Ok s) (h : Cs s c I) {x : Int} (hx : x ∈ c) : gd x := by
  obtain ⟨i, i1, i2, _⟩ := (h.mem x).1 hx
  have := lt_gd hok i1; rw [i2] at this; unfold Go.Chk.gd at this ⊢; omega
theorem Cs.con (hok : Ok s) (h : Cs s c I) : Con (· ∈ c) := fun x hx hy => by
  obtain ⟨i, i1, i2, _⟩ := (h.mem x).1 hx
  obtain ⟨j, j1, j2, _⟩ := (h.mem _).1 hy
  exact lt_opp hok (i := j) (j := i) j1 i1 (by rw [j2, i2])
theorem Cs.num (hok : Ok s) (h : Cs s c I) (p : Int → Bool) (q : Nat → Bool) (hpq : ∀ i, i < s.L.length → p (-(ltF s i)) = q i) : (c.filter p).length = ((List.range s.L.length).filter fun i => I i && q i).length := by
  have hlm : ((List.range s.L.length).filter fun i => I i && q i).length = (((List.range s.L.length).filter fun i => I i && q i).map fun i => -(ltF s i)).length := by simp
  rw [hlm]
  apply same_len (h.nd.filter _)
  · refine List.pairwise_map.2 ?_
    have hnd : ((List.range s.L.length).filter fun i => I i && q i).Nodup := (List.nodup_range).filter _
    refine List.Pairwise.imp_of_mem (fun {a b} ha hb hne e => hne ?_) hnd
    have ha2 := List.mem_range.1 (List.mem_filter.1 ha).1
    have hb2 := List.mem_range.1 (List.mem_filter.1 hb).1
    exact lt_inj hok ha2 hb2 (by omega)
  · intro x
    rw [List.mem_filter, List.mem_map]
    constructor
    · rintro ⟨h1, h2⟩
      obtain ⟨i, i1, i2, i3⟩ := (h.mem x).1 h1
      refine ⟨i, List.mem_filter.2 ⟨List.mem_range.2 i1, ?_⟩, by rw [i2, Int.neg_neg]⟩
      rw [i3, ← hpq i i1, i2, Int.neg_neg, h2]; rfl
    · rintro ⟨i, h1, h2⟩
      obtain ⟨h3, h4⟩ := List.mem_filter.1 h1
      rw [List.mem_range] at h3
      rw [Bool.and_eq_true] at h4
      refine ⟨(h.mem x).2 ⟨i, h3, by rw [← h2, Int.neg_neg], h4.1⟩, ?_⟩
      rw [← h2, hpq i h3]; exact h4.2
theorem Cs.len (hok : Ok s) (h : Cs s c I) : c.length ≤ 12 := by
  have h1 := h.num hok (fun _ => true) (fun _ => true) (fun _ _ => rfl)
  have h2 : c.filter (fun _ => true) = c := by simp
  rw [h2] at h1
  have h3 := List.length_filter_le (fun i => I i && true) (List.range s.L.length)
  rw [List.length_range] at h3
  have h4 := hok.len
  omega
theorem Cs.lv (hok : Ok s) (h : Cs s c I) : (c.filter fun x => decide (levV s.L (x.natAbs : Int) = (s.k : Int))).length = cI I (mF s) s.L.length := by
  rw [h.num hok _ (fun i => decide (mF s ≤ i)) (fun i hi => ?_)]
  · have hm : mF s ≤ s.L.length := cnt_le _ _
    unfold cI
    rw [show s.L.length = mF s + (s.L.length - mF s) by omega, List.range_eq_range', show mF s + (s.L.length - mF s) - mF s = s.L.length - mF s by omega, ← List.range'_append, List.filter_append, List.length_append]
    have e1 : (List.range' 0 (mF s)).filter (fun i => I i && decide (mF s ≤ i)) = [] := by
      rw [List.filter_eq_nil_iff]; intro i hi; rw [List.mem_range'_1] at hi; simp; omega
    rw [e1, List.length_nil, Nat.zero_add, Nat.one_mul, Nat.zero_add]
    congr 1
    apply List.filter_congr
    intro i hi; rw [List.mem_range'_1] at hi
    rw [decide_eq_true (show mF s ≤ i by omega), Bool.and_true]
  · obtain ⟨x, hx⟩ := item hok hi
    obtain ⟨e1, _, e3, _⟩ := lt_at hok hx
    rw [Int.natAbs_neg, e1, e3]
    have h1 := lev_cnt hok hx (s.k : Int)
    have h2 := lev_rng hok hx
    apply decide_eq_decide.2
    unfold mF; omega
theorem Cs.has (hok : Ok s) (h : Cs s c I) {j : Nat} (hj : j < s.L.length) : -(ltF s j) ∈ c ↔ I j = true := by
  rw [h.mem]
  constructor
  · rintro ⟨i, i1, i2, i3⟩
    have : i = j := lt_inj hok i1 hj (by omega)
    rw [← this]; exact i3
  · intro e; exact ⟨j, hj, by rw [Int.neg_neg], e⟩
end cs
def addM (p : Int) : List Int → List Int → List Int
  | n, [] => n
  | n, x :: r => addM p (if x ≠ p ∧ x ∉ n then n ++ [x] else n) r
theorem addM_snoc (p : Int) : ∀ (n l : List Int) (x : Int), addM p n (l ++ [x]) = if x ≠ p ∧ x ∉ addM p n l then addM p n l ++ [x] else addM p n l
  | n, [], x => rfl
  | n, y :: l, x => by rw [List.cons_append, addM, addM]; exact addM_snoc p _ l x
theorem addM_mem (p : Int) {x : Int} : ∀ {l n : List Int}, x ∈ addM p n l ↔ x ∈ n ∨ (x ∈ l ∧ x ≠ p)
  | [], n => by simp [addM]
  | y :: l, n => by
    rw [addM, addM_mem p (l := l)]
    by_cases e : y ≠ p ∧ y ∉ n
    · rw [if_pos e, List.mem_append, List.mem_singleton, List.mem_cons]
      constructor
      · rintro ((h | h) | h)
        · exact .inl h
        · right; subst h; exact ⟨.inl rfl, e.1⟩
        · exact .inr ⟨.inr h.1, h.2⟩
      · rintro (h | ⟨h1 | h1, h2⟩)
        · exact .inl (.inl h)
        · exact .inl (.inr h1)
        · exact .inr ⟨h1, h2⟩
    · rw [if_neg e, List.mem_cons]
      constructor
      · rintro (h | h)
        · exact .inl h
        · exact .inr ⟨.inr h.1, h.2⟩
      · rintro (h | ⟨h1 | h1, h2⟩)
        · exact .inl h
        · subst h1
          by_cases z : x ∈ n
          · exact .inl z
          · exact absurd ⟨h2, z⟩ e
        · exact .inr ⟨h1, h2⟩
theorem addM_nd (p : Int) : ∀ {l n : List Int}, n.Nodup → (addM p n l).Nodup
  | [], n, h => h
  | y :: l, n, h => by
    rw [addM]
    apply addM_nd p
    by_cases e : y ≠ p ∧ y ∉ n
    · rw [if_pos e, List.nodup_append]
      exact ⟨h, by simp, fun a ha b hb => by rw [List.mem_singleton] at hb; subst hb; intro z; subst z; exact e.2 ha⟩
    · rw [if_neg e]; exact h
def resM (c : List Int) (p : Int) (rc : List Int) : List Int := addM p (c.filter fun x => decide (x ≠ -p)) rc
theorem Cs.res {s : TS} (hok : Ok s) {cl : Nat → Option (List Int)} (sn : Sn cl s.L) {c : List Int} {I : Nat → Bool} (h : Cs s c I) {j : Nat} (hj : j < s.L.length) {rc : List Int} (hl : liveC cl (reaV s.L ((ltF s j).natAbs : Int)) = some rc) : Cs s (resM c (ltF s j) rc) (stI (riF s cl j) I j) := by
  obtain ⟨r1, r2⟩ := rsn hok sn hj hl
  refine ⟨addM_nd _ (h.nd.filter _), fun x => ?_⟩
  unfold resM
  rw [addM_mem, List.mem_filter, decide_eq_true_eq]
  have hri : ∀ i, riF s cl j i = decide (i < j ∧ -(ltF s i) ∈ rc) := fun i => by unfold riF; rw [hl]
  constructor
  · rintro (⟨h1, h2⟩ | ⟨h1, h2⟩)
    · obtain ⟨i, i1, i2, i3⟩ := (h.mem x).1 h1
      refine ⟨i, i1, i2, ?_⟩
      unfold stI
      rw [decide_eq_true (show i ≠ j from fun e => h2 (by rw [← e, i2, Int.neg_neg])), i3]; rfl
    · obtain ⟨i, i1, i2⟩ := r2 x h1 h2
      refine ⟨i, by omega, i2, ?_⟩
      unfold stI
      rw [hri, decide_eq_true (show i < j ∧ -(ltF s i) ∈ rc from ⟨i1, by rw [i2, Int.neg_neg]; exact h1⟩), Bool.or_true]
  · rintro ⟨i, i1, i2, i3⟩
    unfold stI at i3
    rw [hri, Bool.or_eq_true, Bool.and_eq_true, decide_eq_true_eq, decide_eq_true_eq] at i3
    rcases i3 with ⟨h1, h2⟩ | ⟨h1, h2⟩
    · exact .inl ⟨(h.mem x).2 ⟨i, i1, i2, h2⟩, fun e => h1 (lt_inj hok i1 hj (by omega))⟩
    · rw [i2, Int.neg_neg] at h2
      exact .inr ⟨h2, fun e => lt_opp hok (i := i) (j := j) i1 hj (by rw [i2, e])⟩
theorem Cs.hi {s : TS} (hok : Ok s) {cl : Nat → Option (List Int)} {c c0 : List Int} (h : Cs s c (jC s cl c0)) {x : Int} : x ∈ c.filter (fun x => decide (levV s.L (x.natAbs : Int) ≠ 0)) ↔ hH s cl c0 x := by
  rw [List.mem_filter, decide_eq_true_eq, h.mem]
  have key : ∀ i, i < s.L.length → ltF s i = -x → (levV s.L (x.natAbs : Int) ≠ 0 ↔ cnt s.L 1 ≤ i) := fun i hi e => by
    obtain ⟨z, hz⟩ := item hok hi
    obtain ⟨e1, _, e3, _⟩ := lt_at hok hz
    have h1 := lev_cnt hok hz 1
    have h2 := lev_rng hok hz
    rw [show x.natAbs = z.lit.natAbs by omega, e3]; omega
  constructor
  · rintro ⟨⟨i, i1, i2, i3⟩, h2⟩; exact ⟨i, i1, (key i i1 i2).1 h2, i2, i3⟩
  · rintro ⟨i, i1, i2, i3, i4⟩; exact ⟨⟨i, i1, i3, i4⟩, (key i i1 i3).2 i2⟩
theorem filt_snoc {c : List Int} {i : Nat} (h : i < c.length) (f : Int → Bool) : (c.take (i + 1)).filter f = if f (c.getD i 0) = true then (c.take i).filter f ++ [c.getD i 0] else (c.take i).filter f := by
  rw [getD_snoc _ _ h, List.filter_append]
  by_cases e : f (c.getD i 0) = true
  · rw [if_pos e, List.filter_cons_of_pos e]; rfl
  · rw [if_neg e, List.filter_cons_of_neg e]; simp
theorem filt_le {c : List Int} {i : Nat} (f : Int → Bool) : ((c.take i).filter f).length ≤ i := Nat.le_trans (List.length_filter_le _ _) (by rw [List.length_take]; omega)
end Go.Proofs.Qxb6500400aGreat
