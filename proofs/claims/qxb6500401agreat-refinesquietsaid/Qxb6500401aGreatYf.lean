import Derived.Test.Qxb6500401aGreatYe
set_option linter.unusedVariables false
set_option linter.unusedSimpArgs false
namespace Go.Proofs.Qxb6500401aGreat
open Go.Eng Go.Trl Go.Chk Go.Wat

def ansF (s : TS) (cl : Nat → Option (List Int)) (conf : Int) : Ans := match liveC cl conf with
  | none => ⟨13, [], 0, 0⟩
  | some c => if (c.all fun x => decide (valO s x = -1)) = true then
      if s.k = 0 ∨ cI (iC s c) (mF s) s.L.length = 0 then ⟨10, [], 0, 0⟩ else shH s cl (hB s cl c) 12
    else ⟨15, [], 0, 0⟩
theorem all_fal {s : TS} (hok : Ok s) {c : List Int} (hg : ∀ x ∈ c, gd x) (h : (c.all fun x => decide (valO s x = -1)) = true) : Fal s c := fun x hx => by
  rw [List.all_eq_true] at h
  have h1 : valO s x = -1 := by simpa using h x hx
  rcases vO3 (s := s) (hg x hx) with q | q | q
  · omega
  · have := q.2
    rw [← List.take_length (l := s.L)] at this
    obtain ⟨i, i1, i2, i3⟩ := lt_idx hok this
    exact ⟨i, i2, i3⟩
  · omega
theorem Ans.eq {g : Ans} {e : Nat} {l : List Int} {a b : Int} (h1 : g.err = e) (h2 : g.lits = l) (h3 : g.asr = a) (h4 : g.back = b) : g = ⟨e, l, a, b⟩ := by cases g; simp at *; exact ⟨h1, h2, h3, h4⟩
theorem an_real {s : TS} (hok : Ok s) {cl : Nat → Option (List Int)} (sn : Sn cl s.L) (hn : NL cl) (conf : Int) : analyzeF s cl conf = ansF s cl conf := by
  unfold analyzeF ansF
  cases e : liveC cl conf with
  | none => rfl
  | some c =>
    simp only []
    by_cases c1 : (c.all fun x => decide (valO s x = -1)) = true
    · rw [if_pos c1, if_pos c1]
      have hf := all_fal hok (hn.live e).1 c1
      have hm := mark_eq hok hf
      by_cases c2 : s.k = 0
      · rw [if_pos c2, if_pos (.inl c2)]
      · rw [if_neg c2, hm.op]
        by_cases c3 : cI (iC s c) (mF s) s.L.length = 0
        · rw [if_pos (by omega), if_pos (.inr c3)]
        · rw [if_neg (by omega), if_neg (show ¬ (s.k = 0 ∨ cI (iC s c) (mF s) s.L.length = 0) from fun q => Or.elim q c2 c3)]
          obtain ⟨j0, ht, h1, h2⟩ := clmb_eq hok sn c2 hf c3
          have hga := lt_gd hok ht.lt
          rw [if_neg (by rw [h1]; exact hga.1)]
          have hsw := swp hok ht c2 12 (Nat.le_refl _)
          obtain ⟨h3, h4⟩ := sh_eq hok hn ht c2 h2 12 (Nat.le_refl _)
          symm
          apply Ans.eq hsw.er
          · rw [← h3, h1]
          · rw [hsw.asr, if_pos (by unfold gd at hga; omega), h1]
          · rw [← h4, h1]
    · rw [if_neg c1, if_neg c1]
/-- an answer -/
structure AnK (s : TS) (cl : Nat → Option (List Int)) (c : List Int) (j0 : Nat) (g : Ans) : Prop where
  k0 : s.k ≠ 0
  nc : Nrm c
  fl : Fal s c
  tp : Top s cl c j0
  er : g.err = 0
  nr : Nrm g.lits
  mem : ∀ x, x ∈ g.lits ↔ hH s cl c x ∧ (x = -(ltF s j0) ∨ spH s cl (hB s cl c) x = false)
  asr : g.asr = -(ltF s j0)
  bk : g.back = hiL s (-(ltF s j0)) g.lits
theorem ansK {s : TS} (hok : Ok s) {cl : Nat → Option (List Int)} (sn : Sn cl s.L) (hn : NL cl) {conf : Int} (h0 : (ansF s cl conf).err = 0) : ∃ c j0, liveC cl conf = some c ∧ AnK s cl c j0 (ansF s cl conf) := by
  unfold ansF at h0 ⊢
  cases e : liveC cl conf with
  | none => rw [e] at h0; cases h0
  | some c =>
    rw [e] at h0
    simp only [] at h0 ⊢
    by_cases c1 : (c.all fun x => decide (valO s x = -1)) = true
    · rw [if_pos c1] at h0 ⊢
      by_cases c2 : s.k = 0 ∨ cI (iC s c) (mF s) s.L.length = 0
      · rw [if_pos c2] at h0; cases h0
      · rw [if_neg c2]
        have hf := all_fal hok (hn.live e).1 c1
        obtain ⟨j0, ht, h1, h2⟩ := clmb_eq hok sn (fun q => c2 (.inl q)) hf (fun q => c2 (.inr q))
        have hsw := swp hok ht (fun q => c2 (.inl q)) 12 (Nat.le_refl _)
        have hga := lt_gd hok ht.lt
        refine ⟨c, j0, rfl, fun q => c2 (.inl q), hn.live e, hf, ht, hsw.er, hsw.nr, fun x => ?_, by rw [hsw.asr, if_pos (by unfold gd at hga; omega)], hsw.bk⟩
        rw [hsw.mem]
        constructor
        · exact fun q => q.2
        · intro q; have := hH_gd hok q.1; unfold gd at this; exact ⟨by omega, q⟩
    · rw [if_neg c1] at h0; cases h0
theorem done_unit {S : Int → Prop} {c : List Int} {l : Int} (hd : Done S c) (hc : Con S) (hf : ∀ y ∈ c, y ≠ l → S (-y)) : S l := by
  rcases hd with ⟨x, hx, h1⟩ | ⟨x, hx, y, hy, hne, h1, h2⟩
  · by_cases e : x = l
    · rw [← e]; exact h1
    · exact absurd (hf x hx e) (hc x h1)
  · by_cases e : x = l
    · exact absurd (hf y hy (fun q => hne (by rw [e, q]))) h2
    · exact absurd (hf x hx e) h1
section rup
variable {s : TS} {cl : Nat → Option (List Int)} {R : List (List Int)} {S : Int → Prop}
theorem rup_step (hok : Ok s) (sn : Sn cl s.L) (hR : ∀ id c, id < 52 → cl id = some c → c ∈ R) (hc : Con S) (hd : ∀ c ∈ R, Done S c) {i : Nat} (hi : i < s.L.length) {rc : List Int} (hl : liveC cl (reaV s.L ((ltF s i).natAbs : Int)) = some rc) (hb : ∀ y ∈ rc, ∀ i', i' < i → ltF s i' = -y → S (ltF s i')) : S (ltF s i) := by
  obtain ⟨r1, r2⟩ := rsn hok sn hi hl
  obtain ⟨n, c2, _, h1, h2, h3⟩ := liveS (cl := cl) (by rw [hl]; rfl)
  rw [hl] at h3; cases h3
  refine done_unit (hd _ (hR n rc h1 h2)) hc (fun y hy hne => ?_)
  obtain ⟨i', h4, h5⟩ := r2 y hy hne
  rw [← h5]; exact hb y hy i' h4 h5
theorem rup_zero (hok : Ok s) (sn : Sn cl s.L) (hR : ∀ id c, id < 52 → cl id = some c → c ∈ R) (hc : Con S) (hd : ∀ c ∈ R, Done S c) (i : Nat) : i < cnt s.L 1 → S (ltF s i) := by
  induction i using Nat.strongRecOn with
  | _ i ih =>
    intro hi
    have hl : i < s.L.length := Nat.lt_of_lt_of_le hi (cnt_le _ _)
    obtain ⟨rc, hrc⟩ := rsn_ex hok sn hl (.inr hi)
    exact rup_step hok sn hR hc hd hl hrc (fun y hy i' h1 h2 => ih i' h1 (by omega))
theorem rup_mid (hok : Ok s) (sn : Sn cl s.L) (hR : ∀ id c, id < 52 → cl id = some c → c ∈ R) (hc : Con S) (hd : ∀ c ∈ R, Done S c) {c : List Int} {j0 : Nat} {g : Ans} (hg : AnK s cl c j0 g) (hS : ∀ l, deny g.lits l → S l) (i : Nat) : i < s.L.length → jC s cl c i = true → S (ltF s i) := by
  induction i using Nat.strongRecOn with
  | _ i ih =>
    intro hi hj
    rcases Nat.lt_or_ge i (cnt s.L 1) with q0 | q0
    · exact rup_zero hok sn hR hc hd i q0
    have hx : hH s cl c (-(ltF s i)) := ⟨i, hi, q0, by rw [Int.neg_neg], hj⟩
    by_cases hm : -(ltF s i) ∈ g.lits
    · exact hS _ hm
    · have hsp : spH s cl (hB s cl c) (-(ltF s i)) = true := by
        cases e : spH s cl (hB s cl c) (-(ltF s i)) with
        | true => rfl
        | false => exact absurd ((hg.mem _).2 ⟨hx, .inr e⟩) hm
      unfold spH at hsp
      rw [Int.natAbs_neg] at hsp
      cases e : liveC cl (reaV s.L ((ltF s i).natAbs : Int)) with
      | none => rw [e] at hsp; cases hsp
      | some rc =>
        rw [e] at hsp
        simp only [List.all_eq_true] at hsp
        refine rup_step hok sn hR hc hd hi e (fun y hy i' h1 h2 => ?_)
        have hil : i' < s.L.length := by omega
        have := hsp y hy
        simp only [Bool.or_eq_true, decide_eq_true_eq, Int.neg_neg] at this
        rcases this with (q | q) | q
        · exact absurd (by rw [h2, q]) (lt_opp hok hil hi)
        · obtain ⟨i2, a1, a2, a3, a4⟩ := hB_iff.1 q
          have : i' = i2 := lt_inj hok hil a1 (by rw [h2, a3])
          subst this
          exact ih i' h1 hil a4
        · obtain ⟨z, hz⟩ := item hok hil
          obtain ⟨e1, _, e3, _⟩ := lt_at hok hz
          have hlz : z.lev = 0 := by rw [← q, show y.natAbs = z.lit.natAbs by rw [← e1, h2]; omega, e3]
          exact rup_zero hok sn hR hc hd i' ((lev_cnt hok hz 1).1 (by omega))
theorem rup_up (hok : Ok s) (sn : Sn cl s.L) (hR : ∀ id c, id < 52 → cl id = some c → c ∈ R) (hc : Con S) (hd : ∀ c ∈ R, Done S c) : ∀ (j : Nat) (I : Nat → Bool), j ≤ s.L.length → (∀ i, j ≤ i → I i = false) → (∀ i, i < s.L.length → uip (riF s cl) (mF s) j I i = true → S (ltF s i)) → ∀ i, i < s.L.length → I i = true → S (ltF s i)
  | 0, I, _, _, h => h
  | j + 1, I, hj, hz, h => by
    rw [uip] at h
    by_cases c1 : cI I (mF s) (j + 1) ≤ 1
    · rw [if_pos c1] at h; exact h
    · rw [if_neg c1] at h
      cases hI : I j with
      | false =>
        rw [hI] at h
        simp only [Bool.false_eq_true, if_false] at h
        exact rup_up hok sn hR hc hd j I (by omega) (fun i hi => by by_cases e : i = j; (rw [e]; exact hI); (exact hz i (by omega))) h
      | true =>
        rw [hI, if_pos rfl] at h
        obtain ⟨i0, z1, z2, _⟩ := cI_two (I := I) (a := mF s) (b := j + 1) (by omega) (by simpa using hI)
        obtain ⟨rc, hrc⟩ := rsn_ex hok sn (show j < s.L.length by omega) (.inl (by omega))
        have ih := rup_up hok sn hR hc hd j _ (by omega) (fun i hi => by
          unfold stI riF; rw [hrc]; simp only []
          rw [decide_eq_false (show ¬ (i < j ∧ -(ltF s i) ∈ rc) by omega), Bool.or_false]
          by_cases e : i = j
          · rw [e]; simp
          · rw [hz i (by omega), Bool.and_false]) h
        intro i hi hIi
        by_cases e : i = j
        · subst e
          refine rup_step hok sn hR hc hd hi hrc (fun y hy i' h1 h2 => ih i' (by omega) ?_)
          unfold stI riF; rw [hrc]; simp only []
          rw [decide_eq_true (show i' < i ∧ -(ltF s i') ∈ rc from ⟨h1, by rw [h2, Int.neg_neg]; exact hy⟩), Bool.or_true]
        · refine ih i hi ?_
          unfold stI; rw [hIi, decide_eq_true e]; rfl
end rup
theorem no_fix {s : TS} (hok : Ok s) {cl : Nat → Option (List Int)} (sn : Sn cl s.L) {R : List (List Int)} (hR : ∀ id c, id < 52 → cl id = some c → c ∈ R) {conf : Int} {c : List Int} (hl : liveC cl conf = some c) {j0 : Nat} {g : Ans} (hg : AnK s cl c j0 g) : ¬ Fix R (deny g.lits) := by
  rintro ⟨S, hS, hc, hd⟩
  have h1 := rup_up hok sn hR hc hd s.L.length (iC s c) (Nat.le_refl _) (fun i hi => by unfold iC; exact decide_eq_false (by omega)) (rup_mid hok sn hR hc hd hg hS)
  have h2 : ∀ x ∈ c, S (-x) := fun x hx => by
    obtain ⟨i, i1, i2⟩ := hg.fl x hx
    rw [← i2]; exact h1 i i1 (by unfold iC; exact decide_eq_true ⟨i1, by rw [i2, Int.neg_neg]; exact hx⟩)
  obtain ⟨n, c2, _, a1, a2, a3⟩ := liveS (cl := cl) (by rw [hl]; rfl)
  rw [hl] at a3; cases a3
  rcases hd c (hR n c a1 a2) with ⟨x, hx, q⟩ | ⟨x, hx, _, _, _, q, _⟩
  · exact hc x q (h2 x hx)
  · exact q (h2 x hx)
theorem hiL_gen {s : TS} {a k : Int} : ∀ (l : List Int) (b : Int), (∀ x ∈ l, x ≠ a → levV s.L (x.natAbs : Int) < k) → b < k → b ≤ l.foldl (fun b x => if x = a then b else if b < levV s.L (x.natAbs : Int) then levV s.L (x.natAbs : Int) else b) b ∧ l.foldl (fun b x => if x = a then b else if b < levV s.L (x.natAbs : Int) then levV s.L (x.natAbs : Int) else b) b < k ∧ ∀ x ∈ l, x ≠ a → levV s.L (x.natAbs : Int) ≤ l.foldl (fun b x => if x = a then b else if b < levV s.L (x.natAbs : Int) then levV s.L (x.natAbs : Int) else b) b
  | [], b, _, hb => ⟨Int.le_refl _, hb, fun x hx => by simp at hx⟩
  | y :: l, b, hl, hb => by
    rw [List.foldl_cons]
    have hy := hl y (by simp)
    have hr : ∀ x ∈ l, x ≠ a → levV s.L (x.natAbs : Int) < k := fun x hx => hl x (by simp [hx])
    by_cases e : y = a
    · rw [if_pos e]
      obtain ⟨h1, h2, h3⟩ := hiL_gen l b hr hb
      refine ⟨h1, h2, fun x hx hn => ?_⟩
      rcases List.mem_cons.1 hx with q | q
      · exact absurd (q.trans e) hn
      · exact h3 x q hn
    · rw [if_neg e]
      have hyk := hy e
      by_cases e2 : b < levV s.L (y.natAbs : Int)
      · rw [if_pos e2]
        obtain ⟨h1, h2, h3⟩ := hiL_gen l (levV s.L (y.natAbs : Int)) hr hyk
        refine ⟨by omega, h2, fun x hx hn => ?_⟩
        rcases List.mem_cons.1 hx with q | q
        · rw [q]; exact h1
        · exact h3 x q hn
      · rw [if_neg e2]
        obtain ⟨h1, h2, h3⟩ := hiL_gen l b hr hb
        refine ⟨by omega, h2, fun x hx hn => ?_⟩
        rcases List.mem_cons.1 hx with q | q
        · rw [q]; omega
        · exact h3 x q hn
theorem spH_mono {s : TS} {cl : Nat → Option (List Int)} {hm hm' : Int → Bool} (h : ∀ x, hm' x = true → hm x = true) {q : Int} (hs : spH s cl hm' q = true) : spH s cl hm q = true := by
  unfold spH at hs ⊢
  cases e : liveC cl (reaV s.L (q.natAbs : Int)) with
  | none => rw [e] at hs; cases hs
  | some rc =>
    rw [e] at hs
    simp only [List.all_eq_true] at hs ⊢
    intro x hx
    have := hs x hx
    simp only [Bool.or_eq_true] at this ⊢
    rcases this with (q | q) | q
    · exact .inl (.inl q)
    · exact .inl (.inr (h x q))
    · exact .inr q
theorem AnK.idx {s : TS} (_hok : Ok s) {cl : Nat → Option (List Int)} {c : List Int} {j0 : Nat} {g : Ans} (hg : AnK s cl c j0 g) {x : Int} (hx : x ∈ g.lits) : ∃ i, i < s.L.length ∧ ltF s i = -x := by
  obtain ⟨i, i1, _, i3, _⟩ := ((hg.mem x).1 hx).1; exact ⟨i, i1, i3⟩
theorem AnK.lean {s : TS} (_hok : Ok s) {cl : Nat → Option (List Int)} {c : List Int} {j0 : Nat} {g : Ans} (hg : AnK s cl c j0 g) {q : Int} (hq : q ∈ g.lits) (hn : q ≠ g.asr) : spH s cl (fun x => decide (x ∈ g.lits)) q = false := by
  cases e : spH s cl (fun x => decide (x ∈ g.lits)) q with
  | false => rfl
  | true =>
    have h1 := spH_mono (hm := hB s cl c) (fun x hx => hB_iff.2 ((hg.mem x).1 (by simpa using hx)).1) e
    rcases ((hg.mem q).1 hq).2 with q2 | q2
    · exact absurd (by rw [hg.asr]; exact q2) hn
    · rw [h1] at q2; cases q2
section ank
variable {s : TS} {cl : Nat → Option (List Int)} {c : List Int} {j0 : Nat} {g : Ans}
theorem AnK.a_mem (hok : Ok s) (hg : AnK s cl c j0 g) : g.asr ∈ g.lits := by rw [hg.asr]; exact (hg.mem _).2 ⟨hH_a hok hg.tp hg.k0, .inl rfl⟩
theorem AnK.val (hok : Ok s) (hg : AnK s cl c j0 g) {x : Int} (hx : x ∈ g.lits) : valO s x = -1 := by
  obtain ⟨i, i1, i3⟩ := AnK.idx hok hg hx
  have hgx := hg.nr.1 x hx
  have hm : -x ∈ lits s.L := by rw [← i3]; exact mem_idx.2 ⟨i, lt_mem hok i1⟩
  rcases vO3 (s := s) hgx with q | q | q
  · exact absurd hm (con_lits hok x q.2)
  · exact q.1
  · exact absurd hm q.2.2
theorem AnK.lev (hok : Ok s) (hg : AnK s cl c j0 g) {x : Int} (hx : x ∈ g.lits) : levV s.L (x.natAbs : Int) = (s.k : Int) ↔ x = g.asr := by
  rw [hg.asr]; exact hH_top hok hg.tp ((hg.mem x).1 hx).1
theorem AnK.lev_le (hok : Ok s) (hg : AnK s cl c j0 g) {x : Int} (hx : x ∈ g.lits) : 0 ≤ levV s.L (x.natAbs : Int) ∧ levV s.L (x.natAbs : Int) ≤ (s.k : Int) := by
  obtain ⟨i, i1, i3⟩ := AnK.idx hok hg hx
  obtain ⟨z, hz⟩ := item hok i1
  obtain ⟨e1, _, e3, _⟩ := lt_at hok hz
  rw [show x.natAbs = z.lit.natAbs by rw [← e1, i3]; omega, e3]; exact lev_rng hok hz
theorem AnK.back (hok : Ok s) (hg : AnK s cl c j0 g) : 0 ≤ g.back ∧ g.back < (s.k : Int) ∧ ∀ x ∈ g.lits, x ≠ g.asr → levV s.L (x.natAbs : Int) ≤ g.back := by
  have hk := hg.k0
  have := hiL_gen (s := s) (a := g.asr) (k := (s.k : Int)) g.lits 0 (fun x hx hn => by
    have h1 := hg.lev hok hx; have h2 := hg.lev_le hok hx
    have : ¬ levV s.L (x.natAbs : Int) = (s.k : Int) := fun e => hn (h1.1 e)
    omega) (by omega)
  rw [hg.bk]; unfold hiL; rw [← hg.asr]; exact this
theorem AnK.unit (hok : Ok s) (hg : AnK s cl c j0 g) {sv uv : Int} (hst : StR g.lits (lits (s.L.take (cnt s.L (g.back + 1)))) sv uv) : sv = 0 ∧ uv = g.asr := by
  have hsub : ∀ l, l ∈ lits (s.L.take (cnt s.L (g.back + 1))) → l ∈ lits s.L := fun l hl => by rw [lits_take] at hl; exact List.mem_of_mem_take hl
  have hcon := con_lits hok
  have hb := hg.back hok
  have haj : -g.asr = ltF s j0 := by rw [hg.asr, Int.neg_neg]
  refine hst.unit (fun l h1 h2 => hcon l (hsub l h1) (hsub _ h2)) (hg.a_mem hok) (fun h => ?_) (fun h => ?_) (fun y hy hn => ?_)
  · have h1 := hsub _ h
    refine hcon _ h1 ?_
    rw [haj]; exact mem_idx.2 ⟨j0, lt_mem hok hg.tp.lt⟩
  · rw [haj] at h
    obtain ⟨i, i1, i2, i3⟩ := lt_idx hok h
    have : i = j0 := lt_inj hok i2 hg.tp.lt (by rw [i3])
    subst this
    obtain ⟨z, hz⟩ := item hok i2
    have h1 := (lev_cnt hok hz (g.back + 1)).2 i1
    have h2 := lev_cnt hok hz (s.k : Int)
    have h3 := hg.tp.ge
    unfold mF at h3; omega
  · obtain ⟨i, i1, i3⟩ := AnK.idx hok hg hy
    obtain ⟨z, hz⟩ := item hok i1
    obtain ⟨e1, _, e3, _⟩ := lt_at hok hz
    have h1 := hb.2.2 y hy hn
    rw [show y.natAbs = z.lit.natAbs by rw [← e1, i3]; omega, e3] at h1
    have h2 := (lev_cnt hok hz (g.back + 1)).1 (by omega)
    rw [lits_take, ← i3, mem_idx]
    exact ⟨i, by rw [List.getElem?_take, if_pos h2]; exact lt_mem hok i1⟩
end ank
end Go.Proofs.Qxb6500401aGreat
