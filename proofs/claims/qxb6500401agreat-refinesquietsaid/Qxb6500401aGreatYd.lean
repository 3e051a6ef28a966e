import Derived.Test.Qxb6500401aGreatYc
set_option linter.unusedVariables false
set_option linter.unusedSimpArgs false
namespace Go.Proofs.Qxb6500401aGreat
open Go.Eng Go.Trl Go.Chk Go.Wat

theorem cI_top {I : Nat → Bool} {a j n : Nat} (hj : j ≤ n) (hz : ∀ i, j ≤ i → I i = false) : cI I a n = cI I a j := by
  obtain ⟨d, rfl⟩ : ∃ d, n = j + d := ⟨n - j, by omega⟩
  clear hj
  induction d with
  | zero => rfl
  | succ d ih =>
    rcases Nat.lt_or_ge (j + d) a with q | q
    · rw [cI_lt _ (show j + (d + 1) ≤ a by omega), cI_lt _ (show j ≤ a by omega)]
    · rw [← Nat.add_assoc, cI_step _ q, hz (j + d) (by omega), ih]; simp
theorem rsn {s : TS} (hok : Ok s) {cl : Nat → Option (List Int)} (sn : Sn cl s.L) {j : Nat} (hj : j < s.L.length) {rc : List Int} (hl : liveC cl (reaV s.L ((ltF s j).natAbs : Int)) = some rc) : ltF s j ∈ rc ∧ ∀ y ∈ rc, y ≠ ltF s j → ∃ i, i < j ∧ ltF s i = -y := by
  obtain ⟨x, hx⟩ := item hok hj
  obtain ⟨e1, _, _, e4, _⟩ := lt_at hok hx
  rw [e1, e4] at hl
  rcases sn j x hx with q | ⟨id, c, h1, h2, h3, h4, _, _, h5⟩
  · rw [q.1] at hl; unfold liveC at hl; rw [if_neg (by omega)] at hl; cases hl
  · rw [h2, liveC_nat h1, h3] at hl
    cases hl
    rw [e1]
    refine ⟨h4, fun y hy hn => ?_⟩
    obtain ⟨i, i1, _, i3⟩ := lt_idx hok (h5 y hy hn)
    exact ⟨i, i1, i3⟩
theorem rsn_ex {s : TS} (hok : Ok s) {cl : Nat → Option (List Int)} (sn : Sn cl s.L) {j : Nat} (hj : j < s.L.length) (hm : mF s < j ∨ j < cnt s.L 1) : ∃ rc, liveC cl (reaV s.L ((ltF s j).natAbs : Int)) = some rc := by
  obtain ⟨x, hx⟩ := item hok hj
  obtain ⟨e1, _, _, e4, _⟩ := lt_at hok hx
  rw [e1, e4]
  have hr := lev_rng hok hx
  rcases sn j x hx with q | ⟨id, c, h1, h2, h3, _⟩
  · exfalso
    rcases hm with hm | hm
    · have h1 := lev_cnt hok hx (s.k : Int)
      unfold mF at hm
      have hk : x.lev = (s.k : Int) := by omega
      rw [hk] at q; omega
    · have h1 := (lev_cnt hok hx 1).2 hm
      omega
  · exact ⟨c, by rw [h2, liveC_nat h1, h3]⟩
theorem climb_eq {s : TS} (hok : Ok s) {cl : Nat → Option (List Int)} (sn : Sn cl s.L) : ∀ (j : Nat) {st : LS} {I : Nat → Bool}, j ≤ s.L.length → RL s j st I → 1 ≤ cI I (mF s) j →
    ∃ j0, j0 < s.L.length ∧ mF s ≤ j0 ∧ (climbF s cl s.k j st).2 = ltF s j0 ∧ (climbF s cl s.k j st).1.ok ∧ (∀ i, mF s ≤ i → (uip (riF s cl) (mF s) j I i = true ↔ i = j0)) ∧ ∀ x, gd x → (holdsF (climbF s cl s.k j st).1 x = true ↔ ∃ i, i < mF s ∧ cnt s.L 1 ≤ i ∧ ltF s i = -x ∧ uip (riF s cl) (mF s) j I i = true)
  | 0, st, I, _, _, hc => by rw [cI_lt _ (Nat.zero_le _)] at hc; omega
  | j + 1, st, I, hj, h, hc => by
    obtain ⟨x, hx⟩ := item hok (show j < s.L.length by omega)
    obtain ⟨e1, e2, e3, e4, e5⟩ := lt_at hok hx
    have hat : atL s.L (j : Int) = ltF s j := by rw [e1, e2]
    have hlv : levV s.L ((ltF s j).natAbs : Int) = x.lev := by rw [e1]; exact e3
    have hr := lev_rng hok hx
    have hlk := lev_cnt hok hx (s.k : Int)
    rw [climbF_succ, hat, h.sn j (by omega)]
    cases hI : I j with
    | false =>
      rw [if_neg (by simp)]
      have hz : ∀ i, j ≤ i → I i = false := fun i hi => by
        by_cases e : i = j
        · rw [e]; exact hI
        · exact h.zr i (by omega)
      have hcc : cI I (mF s) (j + 1) = cI I (mF s) j := cI_top (by omega) hz
      have hu : uip (riF s cl) (mF s) (j + 1) I = uip (riF s cl) (mF s) j I := by
        by_cases e : cI I (mF s) (j + 1) ≤ 1
        · rw [uip_stop e, uip_stop (by omega)]
        · rw [uip, if_neg e, hI]; simp
      rw [hu]
      exact climb_eq hok sn j (by omega) ⟨h.ok, fun i hi => h.sn i (by omega), hz, by rw [h.op, hcc], h.hd⟩ (by omega)
    | true =>
      have hjm : mF s ≤ j := by
        rcases Nat.lt_or_ge j (mF s) with q | q
        · rw [cI_lt _ (show j + 1 ≤ mF s by omega)] at hc; omega
        · exact q
      have hk : x.lev = (s.k : Int) := by unfold mF at hjm; omega
      rw [if_pos rfl, hlv, if_pos hk]
      have hcs := cI_step I hjm
      rw [hI] at hcs
      simp only [if_true] at hcs
      by_cases c1 : cI I (mF s) (j + 1) = 1
      · rw [if_pos (by rw [h.op]; omega), uip_stop (by omega)]
        refine ⟨j, by omega, hjm, rfl, ⟨h.ok.s, h.ok.p, h.ok.n⟩, fun i hi => ⟨fun e => ?_, fun e => by rw [e]; exact hI⟩, h.hd⟩
        rcases Nat.lt_or_ge i (j + 1) with q | q
        · exact cI_uniq (b := j + 1) (by omega) hi q hjm (by omega) e hI
        · rw [h.zr i q] at e; cases e
      · have hlt : mF s < j := by
          rcases Nat.lt_or_ge (mF s) j with q | q
          · exact q
          · rw [cI_lt I (show j ≤ mF s by omega)] at hcs; omega
        obtain ⟨rc, hrc⟩ := rsn_ex hok sn (show j < s.L.length by omega) (.inl hlt)
        obtain ⟨r1, r2⟩ := rsn hok sn (show j < s.L.length by omega) hrc
        rw [if_neg (by rw [h.op]; omega), hrc]
        simp only []
        have h0 : RL s j { st with op := st.op - 1 } (fun i => decide (i ≠ j) && I i) := by
          refine ⟨⟨h.ok.s, h.ok.p, h.ok.n⟩, fun i hi => ?_, fun i hi => ?_, ?_, fun z hz => ?_⟩
          · rw [decide_eq_true (show i ≠ j by omega), Bool.true_and]; exact h.sn i (by omega)
          · by_cases e : i = j
            · rw [e]; simp
            · rw [h.zr i (by omega), Bool.and_false]
          · simp only []
            have hx9 : cI (fun i => decide (i ≠ j) && I i) (mF s) j = cI I (mF s) j := cI_ext (fun i _ hi => by rw [decide_eq_true (show i ≠ j by omega), Bool.true_and])
            rw [h.op, hx9]
            omega
          · rw [show holdsF { st with op := st.op - 1 } z = holdsF st z from rfl, h.hd z hz]
            constructor
            · rintro ⟨i, i1, i2, i3, i4⟩; exact ⟨i, i1, i2, i3, by rw [decide_eq_true (show i ≠ j by omega), i4]; rfl⟩
            · rintro ⟨i, i1, i2, i3, i4⟩; exact ⟨i, i1, i2, i3, by rw [decide_eq_true (show i ≠ j by omega), Bool.true_and] at i4; exact i4⟩
        obtain ⟨m1, m2⟩ := marks hok (show j ≤ s.L.length by omega) (rc := rc) h0 (fun y hy => by
          by_cases e : y = ltF s j
          · right; refine ⟨fun i hi q => lt_opp hok (i := i) (j := j) (by omega) (by omega) (by rw [q, e]), ?_⟩
            rw [e]; simp only []; rw [h.sn j (by omega)]; exact hI
          · exact .inl (r2 y hy e))
        rw [if_pos m2]
        have hu : uip (riF s cl) (mF s) (j + 1) I = uip (riF s cl) (mF s) j (fun i => (decide (i ≠ j) && I i) || decide (i < j ∧ -(ltF s i) ∈ rc)) := by
          rw [uip, if_neg (by omega), hI, if_pos rfl]
          congr 1; funext i; unfold stI riF; rw [hrc]
        rw [hu]
        refine climb_eq hok sn j (by omega) m1 ?_
        obtain ⟨i, i1, i2, i3⟩ := cI_pos (I := I) (a := mF s) (b := j) (by omega)
        exact cI_one i1 i2 (by rw [i3, decide_eq_true (show i ≠ j by omega)]; rfl)
def iC (s : TS) (c : List Int) : Nat → Bool := fun i => decide (i < s.L.length ∧ -(ltF s i) ∈ c)
def jC (s : TS) (cl : Nat → Option (List Int)) (c : List Int) : Nat → Bool := uip (riF s cl) (mF s) s.L.length (iC s c)
def hH (s : TS) (cl : Nat → Option (List Int)) (c : List Int) (x : Int) : Prop := ∃ i, i < s.L.length ∧ cnt s.L 1 ≤ i ∧ ltF s i = -x ∧ jC s cl c i = true
/-- every literal of the clause is false -/
def Fal (s : TS) (c : List Int) : Prop := ∀ x ∈ c, ∃ i, i < s.L.length ∧ ltF s i = -x
theorem mark_eq {s : TS} (hok : Ok s) {c : List Int} (hf : Fal s c) : RL s s.L.length (markA s s.k LS.z c).1 (iC s c) := by
  have h0 : RL s s.L.length LS.z (fun _ => false) := ⟨⟨by decide, by decide, by decide⟩, fun i _ => Nat.zero_testBit _, fun _ _ => rfl, by
      have : cI (fun _ => false) (mF s) s.L.length = 0 := by unfold cI; simp
      rw [this]; rfl, fun x _ => by
      constructor
      · intro e; exfalso; unfold holdsF LS.z at e; simp at e
      · rintro ⟨_, _, _, _, e⟩; cases e⟩
  have := (marks hok (Nat.le_refl _) (rc := c) h0 (fun x hx => .inl (hf x hx))).1
  have e : (fun i => false || decide (i < s.L.length ∧ -(ltF s i) ∈ c)) = iC s c := by funext i; simp [iC]
  rw [e] at this; exact this
/-- the end of the climb -/
structure Top (s : TS) (cl : Nat → Option (List Int)) (c : List Int) (j0 : Nat) : Prop where
  lt : j0 < s.L.length
  ge : mF s ≤ j0
  un : ∀ i, mF s ≤ i → (jC s cl c i = true ↔ i = j0)
theorem clmb_eq {s : TS} (hok : Ok s) {cl : Nat → Option (List Int)} (sn : Sn cl s.L) (hk : s.k ≠ 0) {c : List Int} (hf : Fal s c) (hc : cI (iC s c) (mF s) s.L.length ≠ 0) : ∃ j0, Top s cl c j0 ∧ (clmb s cl c).2 = ltF s j0 ∧ ∀ x, gd x → (holdsF (joinF (clmb s cl c).1 (-(clmb s cl c).2)) x = true ↔ hH s cl c x) := by
  obtain ⟨j0, h1, h2, h3, h4, h5, h6⟩ := climb_eq hok sn s.L.length (Nat.le_refl _) (mark_eq hok hf) (by omega)
  have hcl : clmb s cl c = climbF s cl s.k s.L.length (markA s s.k LS.z c).1 := rfl
  rw [← hcl] at h3 h4 h6
  refine ⟨j0, ⟨h1, h2, h5⟩, h3, fun x hx => ?_⟩
  have hg := lt_gd hok h1
  have hgn : gd (-(clmb s cl c).2) := by rw [h3]; unfold gd at hg ⊢; omega
  have h1m : cnt s.L 1 ≤ mF s := by
    obtain ⟨y, hy⟩ := item hok h1
    rcases Nat.lt_or_ge (mF s) (cnt s.L 1) with q | q
    · have hm : mF s < s.L.length := by omega
      obtain ⟨z, hz⟩ := item hok hm
      have a1 := (lev_cnt hok hz 1).2 q
      have a2 := lev_cnt hok hz (s.k : Int)
      have a3 := lev_rng hok hz
      have : z.lev < (s.k : Int) := by omega
      have := a2.1 this
      unfold mF at this; omega
    · exact q
  rw [holds_join hgn hx, Bool.or_eq_true, h6 x hx, decide_eq_true_eq, h3]
  constructor
  · rintro (⟨i, i1, i2, i3, i4⟩ | e)
    · exact ⟨i, by omega, i2, i3, i4⟩
    · exact ⟨j0, h1, by omega, by rw [e, Int.neg_neg], (h5 j0 h2).2 rfl⟩
  · rintro ⟨i, i1, i2, i3, i4⟩
    rcases Nat.lt_or_ge i (mF s) with q | q
    · exact .inl ⟨i, q, i2, i3, i4⟩
    · right; have := (h5 i q).1 i4; rw [this] at i3; omega
theorem hH_con {s : TS} (hok : Ok s) {cl : Nat → Option (List Int)} {c : List Int} {x : Int} (h : hH s cl c x) : ¬ hH s cl c (-x) := by
  rintro ⟨i, i1, _, i3, _⟩
  obtain ⟨j, j1, _, j3, _⟩ := h
  exact lt_opp hok (i := i) (j := j) i1 j1 (by rw [i3, j3])
theorem hH_gd {s : TS} (hok : Ok s) {cl : Nat → Option (List Int)} {c : List Int} {x : Int} (h : hH s cl c x) : gd x := by
  obtain ⟨i, i1, _, i3, _⟩ := h
  have := lt_gd hok i1
  rw [i3] at this; unfold gd at this ⊢; omega
end Go.Proofs.Qxb6500401aGreat
