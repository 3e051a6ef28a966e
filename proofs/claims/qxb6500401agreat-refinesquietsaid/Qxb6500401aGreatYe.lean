import Derived.Test.Qxb6500401aGreatYd
set_option linter.unusedVariables false
set_option linter.unusedSimpArgs false
namespace Go.Proofs.Qxb6500401aGreat
open Go.Eng Go.Trl Go.Chk Go.Wat

def hB (s : TS) (cl : Nat → Option (List Int)) (c : List Int) (x : Int) : Bool := (List.range s.L.length).any fun i => decide (cnt s.L 1 ≤ i ∧ ltF s i = -x) && jC s cl c i
theorem hB_iff {s : TS} {cl : Nat → Option (List Int)} {c : List Int} {x : Int} : hB s cl c x = true ↔ hH s cl c x := by
  unfold hB hH
  rw [List.any_eq_true]
  constructor
  · rintro ⟨i, h1, h2⟩
    rw [Bool.and_eq_true, decide_eq_true_eq] at h2
    exact ⟨i, List.mem_range.1 h1, h2.1.1, h2.1.2, h2.2⟩
  · rintro ⟨i, h1, h2, h3, h4⟩
    exact ⟨i, List.mem_range.2 h1, by rw [h4, decide_eq_true ⟨h2, h3⟩]; rfl⟩
def qH (hm : Int → Bool) (v : Nat) : Int := if hm (-(v : Int)) = true then -(v : Int) else if hm (v : Int) = true then (v : Int) else 0
def spH (s : TS) (cl : Nat → Option (List Int)) (hm : Int → Bool) (q : Int) : Bool := match liveC cl (reaV s.L (q.natAbs : Int)) with
  | none => false
  | some rc => rc.all fun x => decide (x = -q) || hm x || decide (levV s.L (x.natAbs : Int) = 0)
def shH (s : TS) (cl : Nat → Option (List Int)) (hm : Int → Bool) : Nat → Ans
  | 0 => ⟨0, [], 0, 0⟩
  | v + 1 => if qH hm (v + 1) ≠ 0 then
      if levV s.L ((v + 1 : Nat) : Int) = (s.k : Int) then ⟨0, (shH s cl hm v).lits ++ [qH hm (v + 1)], qH hm (v + 1), (shH s cl hm v).back⟩
      else if spH s cl hm (qH hm (v + 1)) = false then ⟨0, (shH s cl hm v).lits ++ [qH hm (v + 1)], (shH s cl hm v).asr, if (shH s cl hm v).back < levV s.L ((v + 1 : Nat) : Int) then levV s.L ((v + 1 : Nat) : Int) else (shH s cl hm v).back⟩
      else shH s cl hm v
    else shH s cl hm v
def NL (cl : Nat → Option (List Int)) : Prop := ∀ n, n < 52 → ∀ c, cl n = some c → Nrm c
theorem NL.live {cl : Nat → Option (List Int)} (h : NL cl) {id : Int} {c : List Int} (hl : liveC cl id = some c) : Nrm c := by
  obtain ⟨n, c2, _, h1, h2, h3⟩ := liveS (cl := cl) (id := id) (by rw [hl]; rfl)
  rw [hl] at h3; cases h3
  exact h n h1 c h2
theorem gd_nat {v : Nat} (h1 : 1 ≤ v) (h2 : v ≤ 12) : gd (v : Int) ∧ gd (-(v : Int)) := by unfold gd; omega
theorem qH_cong {hm hm' : Int → Bool} (h : ∀ x, gd x → hm x = hm' x) {v : Nat} (h1 : 1 ≤ v) (h2 : v ≤ 12) : qH hm v = qH hm' v := by
  unfold qH; rw [h _ (gd_nat h1 h2).1, h _ (gd_nat h1 h2).2]
theorem all_congr {α : Type} {l : List α} {f g : α → Bool} (h : ∀ x ∈ l, f x = g x) : l.all f = l.all g := by
  induction l with
  | nil => rfl
  | cons a l ih => simp only [List.all_cons]; rw [h a (by simp), ih (fun x hx => h x (by simp [hx]))]
theorem spH_cong {s : TS} {cl : Nat → Option (List Int)} (hn : NL cl) {hm hm' : Int → Bool} (h : ∀ x, gd x → hm x = hm' x) (q : Int) : spH s cl hm q = spH s cl hm' q := by
  unfold spH
  cases e : liveC cl (reaV s.L (q.natAbs : Int)) with
  | none => rfl
  | some rc =>
    simp only []
    exact all_congr fun x hx => by rw [h x ((hn.live e).1 x hx)]
theorem shH_cong {s : TS} {cl : Nat → Option (List Int)} (hn : NL cl) {hm hm' : Int → Bool} (h : ∀ x, gd x → hm x = hm' x) : ∀ v, v ≤ 12 → shH s cl hm v = shH s cl hm' v
  | 0, _ => rfl
  | v + 1, hv => by
    have ih := shH_cong (s := s) hn h v (by omega)
    rw [shH, shH, qH_cong h (by omega) hv, ih, spH_cong hn h]
section sw
variable {s : TS} {cl : Nat → Option (List Int)} {c : List Int} {j0 : Nat}
theorem lev_top (hok : Ok s) (ht : Top s cl c j0) {i : Nat} (hi : i < s.L.length) (hj : jC s cl c i = true) : levV s.L ((ltF s i).natAbs : Int) = (s.k : Int) ↔ i = j0 := by
  obtain ⟨x, hx⟩ := item hok hi
  obtain ⟨e1, _, e3, _⟩ := lt_at hok hx
  have hr := lev_rng hok hx
  have hc := lev_cnt hok hx (s.k : Int)
  rw [e1, e3]
  have hu := ht.un i
  have hg := ht.ge
  unfold mF at hu hg
  constructor
  · intro e; exact (hu (by omega)).1 hj
  · intro e; subst e; omega
theorem hH_top (hok : Ok s) (ht : Top s cl c j0) {x : Int} (hx : hH s cl c x) : levV s.L (x.natAbs : Int) = (s.k : Int) ↔ x = -(ltF s j0) := by
  obtain ⟨i, i1, i2, i3, i4⟩ := hx
  have := lev_top hok ht i1 i4
  rw [i3, Int.natAbs_neg] at this
  rw [this]
  constructor
  · intro e; subst e; omega
  · intro e; exact lt_inj hok i1 ht.lt (by omega)
end sw
theorem hH_a {s : TS} (hok : Ok s) {cl : Nat → Option (List Int)} {c : List Int} {j0 : Nat} (ht : Top s cl c j0) (hk : s.k ≠ 0) : hH s cl c (-(ltF s j0)) := by
  refine ⟨j0, ht.lt, ?_, by rw [Int.neg_neg], (ht.un j0 ht.ge).2 rfl⟩
  obtain ⟨y, hy⟩ := item hok ht.lt
  have h1 := lev_cnt hok hy 1
  have h2 := lev_cnt hok hy (s.k : Int)
  have h3 := lev_rng hok hy
  have h4 := ht.ge
  unfold mF at h4; omega
theorem qH_or {s : TS} (hok : Ok s) {cl : Nat → Option (List Int)} {c : List Int} {v : Nat} (h1 : 1 ≤ v) : (qH (hB s cl c) v = 0 ∧ ∀ x, x.natAbs = v → ¬ hH s cl c x) ∨ (qH (hB s cl c) v ≠ 0 ∧ (qH (hB s cl c) v).natAbs = v ∧ hH s cl c (qH (hB s cl c) v) ∧ ∀ x, x.natAbs = v → hH s cl c x → x = qH (hB s cl c) v) := by
  unfold qH
  by_cases e1 : hB s cl c (-(v : Int)) = true
  · rw [if_pos e1]
    right
    refine ⟨by omega, by omega, hB_iff.1 e1, fun x hx hh => ?_⟩
    rcases (show x = (v : Int) ∨ x = -(v : Int) by omega) with q | q
    · subst q; exact absurd (hB_iff.1 e1) (hH_con hok hh)
    · exact q
  · rw [if_neg e1]
    by_cases e2 : hB s cl c (v : Int) = true
    · rw [if_pos e2]
      right
      refine ⟨by omega, by omega, hB_iff.1 e2, fun x hx hh => ?_⟩
      rcases (show x = (v : Int) ∨ x = -(v : Int) by omega) with q | q
      · exact q
      · subst q; exact absurd (hB_iff.2 hh) e1
    · rw [if_neg e2]
      left
      refine ⟨rfl, fun x hx hh => ?_⟩
      rcases (show x = (v : Int) ∨ x = -(v : Int) by omega) with q | q
      · subst q; exact e2 (hB_iff.2 hh)
      · subst q; exact e1 (hB_iff.2 hh)
def hiL (s : TS) (a : Int) (l : List Int) : Int := l.foldl (fun b x => if x = a then b else if b < levV s.L (x.natAbs : Int) then levV s.L (x.natAbs : Int) else b) 0
theorem hiL_snoc (s : TS) (a : Int) (l : List Int) (x : Int) : hiL s a (l ++ [x]) = if x = a then hiL s a l else if hiL s a l < levV s.L (x.natAbs : Int) then levV s.L (x.natAbs : Int) else hiL s a l := by
  unfold hiL; rw [List.foldl_append]; rfl
/-- the answer of the sweep -/
structure Swp (s : TS) (cl : Nat → Option (List Int)) (c : List Int) (a : Int) (v : Nat) (g : Ans) : Prop where
  er : g.err = 0
  nr : Nrm g.lits
  mem : ∀ x, x ∈ g.lits ↔ x.natAbs ≤ v ∧ hH s cl c x ∧ (x = a ∨ spH s cl (hB s cl c) x = false)
  asr : g.asr = if a.natAbs ≤ v then a else 0
  bk : g.back = hiL s a g.lits
theorem swp {s : TS} (hok : Ok s) {cl : Nat → Option (List Int)} {c : List Int} {j0 : Nat} (ht : Top s cl c j0) (hk : s.k ≠ 0) : ∀ v, v ≤ 12 → Swp s cl c (-(ltF s j0)) v (shH s cl (hB s cl c) v)
  | 0, _ => ⟨rfl, Nrm.nil, fun x => ⟨fun e => by simp [shH] at e, fun e => by
      have := hH_gd hok e.2.1; unfold gd at this; omega⟩, by rw [if_neg (by have := lt_gd hok ht.lt; unfold gd at this; omega)]; rfl, rfl⟩
  | v + 1, hv => by
    have ih := swp hok ht hk v (by omega)
    have hga := lt_gd hok ht.lt
    have ha := hH_a hok ht hk
    rw [shH]
    rcases qH_or hok (cl := cl) (c := c) (v := v + 1) (by omega) with ⟨q0, q1⟩ | ⟨q0, q1, q2, q3⟩
    · rw [if_neg (by rw [q0]; simp)]
      have hna : ¬ (-(ltF s j0)).natAbs = v + 1 := fun e => q1 _ e ha
      refine ⟨ih.er, ih.nr, fun x => ?_, ?_, ih.bk⟩
      · rw [ih.mem]
        constructor
        · rintro ⟨e1, e2⟩; exact ⟨by omega, e2⟩
        · rintro ⟨e1, e2⟩
          refine ⟨?_, e2⟩
          by_cases e : x.natAbs = v + 1
          · exact absurd e2.1 (q1 x e)
          · omega
      · rw [ih.asr]
        by_cases e : (-(ltF s j0)).natAbs ≤ v
        · rw [if_pos e, if_pos (by omega)]
        · rw [if_neg e, if_neg (by omega)]
    · rw [if_pos q0]
      generalize hq : qH (hB s cl c) (v + 1) = q at *
      have hlt : hH s cl c q := q2
      have htp := hH_top hok ht hlt
      rw [q1] at htp
      have hlast : ∀ y ∈ (shH s cl (hB s cl c) v).lits, y.natAbs < q.natAbs := fun y hy => by have := ((ih.mem y).1 hy).1; omega
      have hgq := hH_gd hok hlt
      by_cases c1 : levV s.L ((v + 1 : Nat) : Int) = (s.k : Int)
      · rw [if_pos c1]
        have hqa := htp.1 c1
        refine ⟨rfl, ih.nr.snoc hgq hlast, fun x => ?_, ?_, ?_⟩
        · simp only []
          rw [List.mem_append, List.mem_singleton, ih.mem]
          constructor
          · rintro (e | e)
            · exact ⟨by omega, e.2⟩
            · subst e; exact ⟨by omega, hlt, .inl hqa⟩
          · rintro ⟨e1, e2⟩
            by_cases e : x.natAbs = v + 1
            · exact .inr (q3 x e e2.1)
            · exact .inl ⟨by omega, e2⟩
        · simp only []; rw [if_pos (by rw [← hqa]; omega)]; exact hqa
        · simp only []; rw [hiL_snoc, if_pos hqa]; exact ih.bk
      · rw [if_neg c1]
        have hqa : ¬ q = -(ltF s j0) := fun e => c1 (htp.2 e)
        have hna : ¬ (-(ltF s j0)).natAbs = v + 1 := fun e => hqa (q3 _ e ha).symm
        have hasr : (shH s cl (hB s cl c) v).asr = if (-(ltF s j0)).natAbs ≤ v + 1 then -(ltF s j0) else 0 := by
          rw [ih.asr]
          by_cases e : (-(ltF s j0)).natAbs ≤ v
          · rw [if_pos e, if_pos (by omega)]
          · rw [if_neg e, if_neg (by omega)]
        by_cases c2 : spH s cl (hB s cl c) q = false
        · rw [if_pos c2]
          refine ⟨rfl, ih.nr.snoc hgq hlast, fun x => ?_, hasr, ?_⟩
          · simp only []
            rw [List.mem_append, List.mem_singleton, ih.mem]
            constructor
            · rintro (e | e)
              · exact ⟨by omega, e.2⟩
              · subst e; exact ⟨by omega, hlt, .inr c2⟩
            · rintro ⟨e1, e2⟩
              by_cases e : x.natAbs = v + 1
              · exact .inr (q3 x e e2.1)
              · exact .inl ⟨by omega, e2⟩
          · simp only []; rw [hiL_snoc, if_neg hqa, ih.bk, q1]
        · rw [if_neg c2]
          refine ⟨ih.er, ih.nr, fun x => ?_, hasr, ih.bk⟩
          rw [ih.mem]
          constructor
          · rintro ⟨e1, e2⟩; exact ⟨by omega, e2⟩
          · rintro ⟨e1, e2, e3⟩
            by_cases e : x.natAbs = v + 1
            · have := q3 x e e2; subst this
              rcases e3 with e3 | e3
              · exact absurd e3 hqa
              · exact absurd e3 c2
            · exact ⟨by omega, e2, e3⟩
theorem litOf_q {st : LS} {v : Nat} (hv : 1 ≤ v) : litOf st v = qH (holdsF st) v := by
  unfold litOf qH holdsF
  rw [if_neg (by omega : ¬ 0 < -(v : Int)), if_pos (by omega : 0 < (v : Int)), Int.natAbs_neg, Int.natAbs_natCast]
theorem spF_H {s : TS} {cl : Nat → Option (List Int)} {st : LS} (q : Int) : spareF s cl st q = spH s cl (holdsF st) q := rfl
/-- the real sweep is the model's -/
theorem sh_eq {s : TS} (hok : Ok s) {cl : Nat → Option (List Int)} (hn : NL cl) {c : List Int} {j0 : Nat} (ht : Top s cl c j0) (hk : s.k ≠ 0) {st : LS} (hh : ∀ x, gd x → (holdsF st x = true ↔ hH s cl c x)) : ∀ v, v ≤ 12 → (shF s cl st (-(ltF s j0)) v).1 = (shH s cl (hB s cl c) v).lits ∧ (shF s cl st (-(ltF s j0)) v).2 = (shH s cl (hB s cl c) v).back
  | 0, _ => ⟨rfl, rfl⟩
  | v + 1, hv => by
    obtain ⟨i1, i2⟩ := sh_eq hok hn ht hk hh v (by omega)
    have hhe : ∀ x, gd x → holdsF st x = hB s cl c x := fun x hx => by rw [Bool.eq_iff_iff, hh x hx, hB_iff]
    have hga := lt_gd hok ht.lt
    rw [shF_succ, shH, litOf_q (by omega), qH_cong hhe (by omega) hv, spF_H, spH_cong hn hhe, i1, i2]
    rcases qH_or hok (cl := cl) (c := c) (v := v + 1) (by omega) with ⟨q0, q1⟩ | ⟨q0, q1, q2, q3⟩
    · rw [q0]
      rw [if_neg (by unfold gd at hga; omega), if_neg (by simp), if_neg (by simp)]; exact ⟨i1, i2⟩
    · rw [if_pos q0]
      have htp := hH_top hok ht q2
      rw [q1] at htp
      by_cases c1 : levV s.L ((v + 1 : Nat) : Int) = (s.k : Int)
      · rw [if_pos c1, if_pos (htp.1 c1)]; exact ⟨rfl, rfl⟩
      · rw [if_neg c1, if_neg (fun e => c1 (htp.2 e))]
        by_cases c2 : spH s cl (hB s cl c) (qH (hB s cl c) (v + 1)) = false
        · rw [if_pos c2, if_pos ⟨q0, c2⟩]; exact ⟨rfl, rfl⟩
        · rw [if_neg c2, if_neg (fun e => c2 e.2)]; exact ⟨i1, i2⟩
end Go.Proofs.Qxb6500401aGreat
