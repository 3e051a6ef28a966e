import Derived.Test.Qxb6500401aGreatYb
set_option linter.unusedVariables false
set_option linter.unusedSimpArgs false
namespace Go.Proofs.Qxb6500401aGreat
open Go.Eng Go.Trl Go.Chk Go.Wat

theorem cI_up1 {I : Nat → Bool} {i a : Nat} (h : I i = false) : ∀ d, cI (fun q => I q || decide (q = i)) a (a + d) = cI I a (a + d) + if a ≤ i ∧ i < a + d then 1 else 0
  | 0 => by rw [Nat.add_zero, cI_self, cI_self, if_neg (by omega)]
  | d + 1 => by
    rw [← Nat.add_assoc, cI_step _ (by omega), cI_step _ (by omega), cI_up1 h d]
    by_cases e : a + d = i
    · subst e; rw [h]; simp
    · have e2 : (I (a + d) || decide (a + d = i)) = I (a + d) := by simp [e]
      rw [e2]
      by_cases e3 : a ≤ i ∧ i < a + d
      · rw [if_pos e3, if_pos (show a ≤ i ∧ i < a + d + 1 by omega)]; omega
      · rw [if_neg e3, if_neg (show ¬ (a ≤ i ∧ i < a + d + 1) by omega)]; omega
theorem cI_up {I : Nat → Bool} {i a b : Nat} (h : I i = false) : cI (fun q => I q || decide (q = i)) a b = cI I a b + if a ≤ i ∧ i < b then 1 else 0 := by
  rcases Nat.lt_or_ge b a with q | q
  · rw [cI_lt _ (by omega), cI_lt _ (by omega), if_neg (by omega)]
  · obtain ⟨d, rfl⟩ : ∃ d, b = a + d := ⟨b - a, by omega⟩
    exact cI_up1 h d
theorem uip_stop {ri : Nat → Nat → Bool} {m : Nat} : ∀ {j : Nat} {I : Nat → Bool}, cI I m j ≤ 1 → uip ri m j I = I
  | 0, I, _ => rfl
  | j + 1, I, h => by unfold uip; rw [if_pos h]
def ltF (s : TS) (i : Nat) : Int := (lits s.L).getD i 0
def mF (s : TS) : Nat := cnt s.L (s.k : Int)
def riF (s : TS) (cl : Nat → Option (List Int)) (j i : Nat) : Bool := match liveC cl (reaV s.L ((ltF s j).natAbs : Int)) with
  | none => false
  | some rc => decide (i < j ∧ -(ltF s i) ∈ rc)
theorem item {s : TS} (_hok : Ok s) {i : Nat} (hi : i < s.L.length) : ∃ x, s.L[i]? = some x := ⟨s.L[i], List.getElem?_eq_getElem hi⟩
section law
variable {s : TS}
theorem lt_at (hok : Ok s) {i : Nat} {x : It} (hx : s.L[i]? = some x) : ltF s i = x.lit ∧ atL s.L (i : Int) = x.lit ∧ levV s.L (x.lit.natAbs : Int) = x.lev ∧ reaV s.L (x.lit.natAbs : Int) = x.rea ∧ gd x.lit := by
  have hi : i < s.L.length := by
    rcases Nat.lt_or_ge i s.L.length with q | q
    · exact q
    · rw [List.getElem?_eq_none q] at hx; cases hx
  have e1 := TI.loc hok hx
  rw [vr_abs] at e1
  have hl : (lits s.L)[i]? = some x.lit := lits_at hx
  refine ⟨?_, ?_, ?_, ?_, gd_lits hok (mem_idx.2 ⟨i, hl⟩)⟩
  · unfold ltF; rw [List.getD_eq_getElem?_getD, hl]; rfl
  · unfold atL; rw [if_pos (by omega)]; simp [hx]
  · unfold levV; rw [e1]
  · unfold reaV; rw [e1]
theorem lt_mem (hok : Ok s) {i : Nat} (hi : i < s.L.length) : (lits s.L)[i]? = some (ltF s i) := by
  obtain ⟨x, hx⟩ := item hok hi
  rw [(lt_at hok hx).1]; exact lits_at hx
theorem lt_inj (hok : Ok s) {i j : Nat} (hi : i < s.L.length) (hj : j < s.L.length) (h : (ltF s i).natAbs = (ltF s j).natAbs) : i = j :=
  (lits_one hok (lt_mem hok hi) (lt_mem hok hj) (by omega)).1
theorem lt_opp (hok : Ok s) {i j : Nat} (hi : i < s.L.length) (hj : j < s.L.length) : ltF s i ≠ -(ltF s j) := fun e => by
  have := con_lits hok (ltF s i) (mem_idx.2 ⟨i, lt_mem hok hi⟩)
  exact this (mem_idx.2 ⟨j, by rw [lt_mem hok hj, e, Int.neg_neg]⟩)
theorem lt_gd (hok : Ok s) {i : Nat} (hi : i < s.L.length) : gd (ltF s i) := by obtain ⟨x, hx⟩ := item hok hi; rw [(lt_at hok hx).1]; exact (lt_at hok hx).2.2.2.2
theorem lt_idx (hok : Ok s) {x : Int} {n : Nat} (h : x ∈ lits (s.L.take n)) : ∃ i, i < n ∧ i < s.L.length ∧ ltF s i = x := by
  rw [lits_take] at h
  obtain ⟨i, hi⟩ := mem_idx.1 h
  have hin : i < n := by
    rcases Nat.lt_or_ge i n with q | q
    · exact q
    · rw [List.getElem?_eq_none (by rw [List.length_take]; omega)] at hi; cases hi
  rw [List.getElem?_take, if_pos hin] at hi
  have hl := lits_lt hi
  refine ⟨i, hin, hl, ?_⟩
  have := lt_mem hok hl
  rw [hi] at this; injection this with this; exact this.symm
theorem lev_cnt (hok : Ok s) {i : Nat} {x : It} (hx : s.L[i]? = some x) (j : Int) : x.lev < j ↔ i < cnt s.L j := by
  have hc := cnt_take j hok.lv
  constructor
  · intro h
    rcases Nat.lt_or_ge i (cnt s.L j) with q | q
    · exact q
    · have hi : i < s.L.length := by
        rcases Nat.lt_or_ge i s.L.length with z | z
        · exact z
        · rw [List.getElem?_eq_none z] at hx; cases hx
      have := hc.2 x (by
        rw [List.mem_iff_getElem?]; exact ⟨i - cnt s.L j, by rw [List.getElem?_drop, show cnt s.L j + (i - cnt s.L j) = i by omega]; exact hx⟩)
      omega
  · intro h
    have hm : x ∈ s.L.take (cnt s.L j) := by rw [List.mem_iff_getElem?]; exact ⟨i, by rw [List.getElem?_take, if_pos h]; exact hx⟩
    rw [← hc.1, List.mem_filter] at hm
    simpa using hm.2
theorem lev_rng (hok : Ok s) {i : Nat} {x : It} (hx : s.L[i]? = some x) : 0 ≤ x.lev ∧ x.lev ≤ (s.k : Int) := (Lv_le hok.lv).2 x (List.mem_of_getElem? hx)
end law
structure RL (s : TS) (j : Nat) (st : LS) (I : Nat → Bool) : Prop where
  ok : st.ok
  sn : ∀ i, i < j → st.seen.testBit (ltF s i).natAbs = I i
  zr : ∀ i, j ≤ i → I i = false
  op : st.op = (cI I (mF s) j : Int)
  hd : ∀ x, gd x → (holdsF st x = true ↔ ∃ i, i < mF s ∧ cnt s.L 1 ≤ i ∧ ltF s i = -x ∧ I i = true)
theorem holds_join {st : LS} {x y : Int} (hx : gd x) (hy : gd y) : holdsF (joinF st x) y = (holdsF st y || decide (y = x)) := by
  unfold gd at hx hy
  unfold holdsF joinF
  by_cases h1 : 0 < x <;> by_cases h2 : 0 < y
  · rw [if_pos h1, if_pos h2, if_pos h2]; simp only []; rw [or_bit]; congr 1; exact decide_eq_decide.2 (by omega)
  · rw [if_pos h1, if_neg h2, if_neg h2]; simp only []; rw [decide_eq_false (by omega), Bool.or_false]
  · rw [if_neg h1, if_pos h2, if_pos h2]; simp only []; rw [decide_eq_false (by omega), Bool.or_false]
  · rw [if_neg h1, if_neg h2, if_neg h2]; simp only []; rw [or_bit]; congr 1; exact decide_eq_decide.2 (by omega)
theorem holds_set {st : LS} {a : Nat} {b : Int} (y : Int) : holdsF { st with seen := a, op := b } y = holdsF st y := rfl
theorem mark1 {s : TS} (hok : Ok s) {j : Nat} {st : LS} {I : Nat → Bool} (h : RL s j st I) (hjn : j ≤ s.L.length) {x : Int} {i : Nat} (hi : i < j) (hx : ltF s i = -x) : RL s j (markF s (s.k : Int) st x).1 (fun q => I q || decide (q = i)) ∧ (markF s (s.k : Int) st x).2 = true := by
  have hil : i < s.L.length := by omega
  have hgl := lt_gd hok hil
  have hgx : gd x := by unfold gd at hgl ⊢; omega
  have hna : x.natAbs = (ltF s i).natAbs := by omega
  obtain ⟨y, hy⟩ := item hok hil
  obtain ⟨e1, _, e3, _, _⟩ := lt_at hok hy
  have hlv : levV s.L (x.natAbs : Int) = y.lev := by rw [hna, e1]; exact e3
  have hrg := lev_rng hok hy
  have hsb := h.sn i hi
  have hm := lev_cnt hok hy (s.k : Int)
  have h1 := lev_cnt hok hy 1
  have hx12 : x.natAbs ≤ 12 := by unfold gd at hgx; omega
  have hso : st.seen ||| 2 ^ x.natAbs < 8192 := or13 h.ok.s (p13 (by omega))
  have hseen : ∀ q, q < j → (st.seen ||| 2 ^ x.natAbs).testBit (ltF s q).natAbs = (I q || decide (q = i)) := fun q hq => by
    rw [or_bit, h.sn q hq, hna]; congr 1
    exact decide_eq_decide.2 ⟨fun e => (lt_inj hok hil (by omega) e).symm, fun e => by rw [e]⟩
  have hzr : ∀ q, j ≤ q → (I q || decide (q = i)) = false := fun q hq => by rw [h.zr q hq, decide_eq_false (by omega)]; rfl
  unfold markF
  by_cases c1 : st.seen.testBit x.natAbs = true
  · rw [if_pos c1]
    have hIi : I i = true := by rw [← hsb, ← hna]; exact c1
    have : (fun q => I q || decide (q = i)) = I := by
      funext q; by_cases e : q = i
      · subst e; rw [hIi]; rfl
      · rw [decide_eq_false e, Bool.or_false]
    rw [this]; exact ⟨h, rfl⟩
  · have hIi : I i = false := by rw [← hsb, ← hna]; simpa using c1
    have hc := cI_up (a := mF s) (b := j) hIi
    rw [if_neg c1, hlv, if_neg (by omega)]
    by_cases c2 : y.lev = (s.k : Int)
    · rw [if_pos c2]
      have him : mF s ≤ i := by unfold mF; omega
      refine ⟨⟨⟨hso, h.ok.p, h.ok.n⟩, hseen, hzr, ?_, fun z hz => ?_⟩, rfl⟩
      · rw [hc, if_pos ⟨him, hi⟩]; simp only []; rw [h.op]; omega
      · rw [holds_set, h.hd z hz]
        constructor
        · rintro ⟨q, q1, q2, q3, q4⟩; exact ⟨q, q1, q2, q3, by rw [q4]; rfl⟩
        · rintro ⟨q, q1, q2, q3, q4⟩; exact ⟨q, q1, q2, q3, by rw [decide_eq_false (show ¬ q = i by omega), Bool.or_false] at q4; exact q4⟩
    · rw [if_neg c2]
      have him : i < mF s := by unfold mF; omega
      have hop : st.op = (cI (fun q => I q || decide (q = i)) (mF s) j : Int) := by rw [hc, if_neg (by omega), h.op]; rfl
      by_cases c3 : 0 < y.lev
      · rw [if_pos c3]
        have hc1 : cnt s.L 1 ≤ i := by omega
        refine ⟨⟨joinF_ok (st := { st with seen := st.seen ||| 2 ^ x.natAbs }) ⟨hso, h.ok.p, h.ok.n⟩ hx12, fun q hq => ?_, hzr, ?_, fun z hz => ?_⟩, rfl⟩
        · rw [show (joinF { st with seen := st.seen ||| 2 ^ x.natAbs } x).seen = st.seen ||| 2 ^ x.natAbs by unfold joinF; split <;> rfl]; exact hseen q hq
        · rw [joinF_op]; exact hop
        · rw [holds_join hgx hz, Bool.or_eq_true, decide_eq_true_eq]
          have h9 := h.hd z hz
          rw [show holdsF { st with seen := st.seen ||| 2 ^ x.natAbs } z = holdsF st z from rfl, h9]
          constructor
          · rintro (⟨q, q1, q2, q3, q4⟩ | e)
            · exact ⟨q, q1, q2, q3, by rw [q4]; rfl⟩
            · exact ⟨i, him, hc1, by rw [hx, e], by simp⟩
          · rintro ⟨q, q1, q2, q3, q4⟩
            by_cases e : q = i
            · right; subst e; rw [hx] at q3; omega
            · left; exact ⟨q, q1, q2, q3, by rw [decide_eq_false e, Bool.or_false] at q4; exact q4⟩
      · rw [if_neg c3]
        refine ⟨⟨⟨hso, h.ok.p, h.ok.n⟩, hseen, hzr, hop, fun z hz => ?_⟩, rfl⟩
        rw [show holdsF { st with seen := st.seen ||| 2 ^ x.natAbs } z = holdsF st z from rfl, h.hd z hz]
        constructor
        · rintro ⟨q, q1, q2, q3, q4⟩; exact ⟨q, q1, q2, q3, by rw [q4]; rfl⟩
        · rintro ⟨q, q1, q2, q3, q4⟩; exact ⟨q, q1, q2, q3, by rw [decide_eq_false (show ¬ q = i by omega), Bool.or_false] at q4; exact q4⟩
/-- the marks of a clause -/
theorem marks {s : TS} (hok : Ok s) {j : Nat} (hjn : j ≤ s.L.length) : ∀ {rc : List Int} {st : LS} {I : Nat → Bool}, RL s j st I → (∀ x ∈ rc, (∃ i, i < j ∧ ltF s i = -x) ∨ ((∀ i, i < j → ltF s i ≠ -x) ∧ st.seen.testBit x.natAbs = true)) → RL s j (markA s (s.k : Int) st rc).1 (fun i => I i || decide (i < j ∧ -(ltF s i) ∈ rc)) ∧ (markA s (s.k : Int) st rc).2 = true
  | [], st, I, h, _ => by
    have : (fun i => I i || decide (i < j ∧ -(ltF s i) ∈ ([] : List Int))) = I := by funext i; simp
    rw [this]; exact ⟨h, rfl⟩
  | x :: r, st, I, h, hx => by
    have hgrow : ∀ v, st.seen.testBit v = true → (markF s (s.k : Int) st x).1.seen.testBit v = true := fun v hv => by
      unfold markF
      repeat' split
      · exact hv
      · exact hv
      · simp only []; rw [or_bit, hv]; rfl
      · rw [show (joinF { st with seen := st.seen ||| 2 ^ x.natAbs } x).seen = st.seen ||| 2 ^ x.natAbs by unfold joinF; split <;> rfl, or_bit, hv]; rfl
      · simp only []; rw [or_bit, hv]; rfl
    rcases hx x (by simp) with ⟨i, hi, e⟩ | ⟨hno, hseen⟩
    · obtain ⟨h1, h2⟩ := mark1 hok h hjn hi e
      have ih := marks hok hjn (rc := r) h1 (fun y hy => by
        rcases hx y (by simp [hy]) with q | q
        · exact .inl q
        · exact .inr ⟨q.1, hgrow _ q.2⟩)
      unfold markA; rw [if_pos h2]
      refine ⟨?_, ih.2⟩
      have hs : (fun q => (I q || decide (q = i)) || decide (q < j ∧ -(ltF s q) ∈ r)) = (fun q => I q || decide (q < j ∧ -(ltF s q) ∈ x :: r)) := by
        funext q
        rw [Bool.or_assoc]; congr 1
        by_cases e2 : q = i
        · subst e2; rw [decide_eq_true (rfl : q = q), Bool.true_or, decide_eq_true]; exact ⟨hi, by rw [e]; simp⟩
        · rw [decide_eq_false e2, Bool.false_or]
          apply decide_eq_decide.2
          constructor
          · rintro ⟨q1, q2⟩; exact ⟨q1, List.mem_cons_of_mem _ q2⟩
          · rintro ⟨q1, q2⟩
            refine ⟨q1, ?_⟩
            rcases List.mem_cons.1 q2 with z | z
            · exact absurd (lt_inj hok (by omega) (by omega) (by omega)) e2
            · exact z
      rw [← hs]; exact ih.1
    · have hm : markF s (s.k : Int) st x = (st, true) := by unfold markF; rw [if_pos hseen]
      have ih := marks hok hjn (rc := r) h (fun y hy => hx y (by simp [hy]))
      unfold markA; rw [hm, if_pos rfl]
      refine ⟨?_, ih.2⟩
      have hs : (fun q => I q || decide (q < j ∧ -(ltF s q) ∈ r)) = (fun q => I q || decide (q < j ∧ -(ltF s q) ∈ x :: r)) := by
        funext q; congr 1
        apply decide_eq_decide.2
        constructor
        · rintro ⟨q1, q2⟩; exact ⟨q1, List.mem_cons_of_mem _ q2⟩
        · rintro ⟨q1, q2⟩
          refine ⟨q1, ?_⟩
          rcases List.mem_cons.1 q2 with z | z
          · exact absurd (by omega) (hno q q1)
          · exact z
      rw [← hs]; exact ih.1
end Go.Proofs.Qxb6500401aGreat
