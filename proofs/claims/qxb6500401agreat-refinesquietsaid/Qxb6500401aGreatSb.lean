import Derived.Test.Qxb6500401aGreatXb
import Derived.Test.Qxb6500401aGreatLw
set_option linter.unusedVariables false
set_option linter.unusedSimpArgs false
namespace Go.Proofs.Qxb6500401aGreat
open Go.Eng Go.Trl Go.Chk Go.Wat

theorem vw_slot {W W' : WC} {id : Nat} (hu : ∀ j, j ≠ id → W'.used.testBit j = W.used.testBit j) (hf : ∀ j, j ≠ id → W'.fresh.testBit j = W.fresh.testBit j) (hk : ∀ j, j ≠ id → W'.weak.testBit j = W.weak.testBit j) (hs : ∀ j, j ≠ id → W'.size j = W.size j) (hl : ∀ j, (j < id * 12 ∨ id * 12 + 12 ≤ j) → W'.lits j = W.lits j) (hq : ∀ q, ∀ j, j ≠ id → (W'.list q).testBit j = (W.list q).testBit j) : ∀ j, j ≠ id → vw W' j = vw W j := fun j hj =>
  vw_eq (hu j hj) (hf j hj) (hk j hj) (hs j hj) (fun i hi => hl _ (by omega)) (fun q _ => hq q j hj)
theorem lk_oth {W : WC} {id c0 c1 : Nat} : ∀ q, ∀ j, j ≠ id → (lkL W id c0 c1 q).testBit j = (W.list q).testBit j := fun q j hj => by rw [lk_bit]; simp [hj]
theorem ul_oth {W : WC} {id c0 c1 : Nat} : ∀ q, ∀ j, j ≠ id → (ulL W id c0 c1 q).testBit j = (W.list q).testBit j := fun q j hj => by rw [ul_bit]; simp [hj]
theorem wi_arr {W : WC} {cl : Nat → Option (List Int)} {ls : List Int} {c id : Nat} {cc : List Int} (h : WI W cl ls c) (hid : id < 52) (hc : cl id = some cc) : Nrm cc ∧ W.size id = cc.length ∧ Arr (fun j => W.lits (id * 12 + j)) cc.length cc := by
  obtain ⟨h1, h2⟩ := (h.lo id hid).a cc hc
  have hn : W.size id = cc.length := h2.1
  refine ⟨h1, hn, ?_⟩
  have h3 := h2
  rw [show (vw W id).n = cc.length from hn] at h3
  exact h3.ext fun j hj => by have := h1.len; simp only [vw]; rw [if_pos (by omega)]
theorem arr_vw {W : WC} {id n : Nat} {cc : List Int} (h : Arr (fun j => W.lits (id * 12 + j)) n cc) (hn : n ≤ 12) : Arr (vw W id).a n cc := h.ext fun j hj => by simp only [vw]; rw [if_pos (by omega)]
theorem vw_a {W : WC} {id j : Nat} (hj : j < 12) : (vw W id).a j = W.lits (id * 12 + j) := by simp only [vw]; rw [if_pos hj]
theorem vw_l {W : WC} {id q : Nat} (hq : q < 26) : (vw W id).l q = (W.list q).testBit id := by simp only [vw]; rw [if_pos hq]
theorem due_no {W : WC} {cl : Nat → Option (List Int)} {ls : List Int} {c id : Nat} (h : WI W cl ls c) (hid : id < 52) (hd : dueW W id = true) : ∀ q, q < 26 → (W.list q).testBit id = false := fun q hq => by
  have hl := (h.lo id hid).l q hq
  rw [vw_l hq] at hl
  rw [hl]
  have : (vw W id).sd = false := by
    unfold dueW at hd
    simp only [Vw.sd, vw]
    rw [Bool.or_eq_true] at hd
    rcases hd with e | e <;> simp [e]
  rw [this]; rfl
section lookL
variable {W : WC} {cl : Nat → Option (List Int)} {ls cc : List Int} {c id : Nat} {lk : Nat → Int}
theorem look_s (hw : WI W cl ls c) (hid : id < 52) (hc : cl id = some cc) (hoth : ∀ j, (j < id * 12 ∨ id * 12 + 12 ≤ j) → lk j = W.lits j) (harr : Arr (fun j => lk (id * 12 + j)) cc.length cc) {v : Nat} (hd : dueW W id = true) (h2 : 2 ≤ cc.length) (h0 : -(lk (id * 12)) ∉ ls) (h1 : -(lk (id * 12 + 1)) ∉ ls) {Wq : WC} (eq : Wq = { W with vis := v, lits := lk, fresh := wo W.fresh (2 ^ id), weak := wo W.weak (2 ^ id) }) {W' : WC} (e' : W' = { Wq with list := lkL Wq id (cdn (lk (id * 12))) (cdn (lk (id * 12 + 1))) }) :
    WI W' cl ls c ∧ (∀ j, j ≠ id → vw W' j = vw W j) ∧ dueW W' id = false := by
  have hnl := due_no hw hid hd
  have hoo : ∀ j, j ≠ id → vw W' j = vw W j := by
    subst e' eq
    exact vw_slot (fun j hj => rfl) (fun j hj => wo_ne hj) (fun j hj => wo_ne hj) (fun j hj => rfl) hoth (fun q j hj => lk_oth q j hj)
  obtain ⟨g1, g2, _⟩ := wi_arr hw hid hc
  have hf : W'.fresh.testBit id = false := by subst e' eq; simp only []; rw [wo_bit2]; simp
  have hk : W'.weak.testBit id = false := by subst e' eq; simp only []; rw [wo_bit2]; simp
  have hlk : W'.lits = lk := by subst e' eq; rfl
  have ha0 : (vw W' id).a 0 = lk (id * 12) := by rw [vw_a (by omega), hlk]; rfl
  have ha1 : (vw W' id).a 1 = lk (id * 12 + 1) := by rw [vw_a (by omega), hlk]
  have hn' : W'.size id = cc.length := by subst e' eq; exact g2
  refine ⟨hw.keep hid hoo (Go.Wat.Loc.sound hc g1 ?_ ?_ hf hk ?_ ?_ ?_ fun q hq => ?_), hoo, by unfold dueW; rw [hf, hk]; rfl⟩
  · have : Arr (vw W' id).a cc.length cc := arr_vw (by rw [hlk]; exact harr) g1.len
    rw [show (vw W' id).n = cc.length from hn']; exact this
  · have := hw.u hid; rw [hc] at this; subst e' eq; exact this
  · rw [show (vw W' id).n = cc.length from hn']; exact h2
  · rw [ha0, ha1]; exact Hold.new h0
  · rw [ha0, ha1]; exact Hold.new h1
  · rw [ha0, ha1, vw_l hq]
    have : W'.list = lkL Wq id (cdn (lk (id * 12))) (cdn (lk (id * 12 + 1))) := by subst e'; rfl
    rw [this, lk_bit]
    have h9 : (Wq.list q).testBit id = false := by subst eq; exact hnl q hq
    rw [h9]; simp
theorem look_w (hw : WI W cl ls c) (hid : id < 52) (hc : cl id = some cc) (hoth : ∀ j, (j < id * 12 ∨ id * 12 + 12 ≤ j) → lk j = W.lits j) (harr : Arr (fun j => lk (id * 12 + j)) cc.length cc) {v : Nat} (hd : dueW W id = true) {W' : WC} (e' : W' = { W with vis := v, lits := lk, fresh := wo W.fresh (2 ^ id), weak := W.weak ||| 2 ^ id }) :
    WI W' cl ls c ∧ (∀ j, j ≠ id → vw W' j = vw W j) ∧ W'.fresh.testBit id = false := by
  have hnl := due_no hw hid hd
  have hoo : ∀ j, j ≠ id → vw W' j = vw W j := by
    subst e'
    exact vw_slot (fun j hj => rfl) (fun j hj => wo_ne hj) (fun j hj => or_ne hj) (fun j hj => rfl) hoth (fun q j hj => rfl)
  obtain ⟨g1, g2, _⟩ := wi_arr hw hid hc
  have hf : W'.fresh.testBit id = false := by subst e'; simp only []; rw [wo_bit2]; simp
  have hk : W'.weak.testBit id = true := by subst e'; simp only []; rw [or_bit]; simp
  have hn' : W'.size id = cc.length := by subst e'; exact g2
  have hlk : W'.lits = lk := by subst e'; rfl
  refine ⟨hw.keep hid hoo (Go.Wat.Loc.weak hc g1 ?_ ?_ hf hk fun q hq => ?_), hoo, hf⟩
  · have : Arr (vw W' id).a cc.length cc := arr_vw (by rw [hlk]; exact harr) g1.len
    rw [show (vw W' id).n = cc.length from hn']; exact this
  · have := hw.u hid; rw [hc] at this; subst e'; exact this
  · rw [vw_l hq]; subst e'; exact hnl q hq
/-- a visit that leaves the clause be -/
theorem visit_a (hw : WI W cl ls c) (hid : id < 52) (hc : cl id = some cc) (hoth : ∀ j, (j < id * 12 ∨ id * 12 + 12 ≤ j) → lk j = W.lits j) (harr : Arr (fun j => lk (id * 12 + j)) cc.length cc) {v : Nat} {p : Int} (hs : (vw W id).sd = true) (h2 : 2 ≤ cc.length) (hcon : Con (· ∈ ls)) (hp : ls[c]? = some p) (hone : ∀ i, ls[i]? = some p → i = c) (e1 : lk (id * 12 + 1) = -p) (hset : (lk (id * 12) = W.lits (id * 12) ∧ lk (id * 12 + 1) = W.lits (id * 12 + 1)) ∨ (lk (id * 12) = W.lits (id * 12 + 1) ∧ lk (id * 12 + 1) = W.lits (id * 12))) {j : Nat} (hj : j < c) (hq : ls[j]? = some (lk (id * 12))) {W' : WC} (e' : W' = { W with vis := v, lits := lk }) :
    WI W' cl ls c ∧ (∀ j, j ≠ id → vw W' j = vw W j) ∧ dueW W' id = false ∧ Go.Wat.Loc (vw W' id) (cl id) ls (c + 1) := by
  have hoo : ∀ j, j ≠ id → vw W' j = vw W j := by
    subst e'
    exact vw_slot (fun j hj => rfl) (fun j hj => rfl) (fun j hj => rfl) (fun j hj => rfl) hoth (fun q j hj => rfl)
  obtain ⟨g1, g2, _⟩ := wi_arr hw hid hc
  have hs2 := hs
  simp only [Vw.sd, vw, Bool.and_eq_true, Bool.not_eq_true'] at hs2
  have hlk : W'.lits = lk := by subst e'; rfl
  have ha0 : (vw W' id).a 0 = lk (id * 12) := by rw [vw_a (by omega), hlk]; rfl
  have ha1 : (vw W' id).a 1 = -p := by rw [vw_a (by omega), hlk, e1]
  have hqm : lk (id * 12) ∈ ls := mem_idx.2 ⟨j, hq⟩
  have hL : Go.Wat.Loc (vw W' id) (cl id) ls (c + 1) := by
    refine Go.Wat.Loc.sound hc g1 ?_ ?_ ?_ ?_ ?_ ?_ ?_ fun q hq => ?_
    · have : Arr (vw W' id).a cc.length cc := arr_vw (by rw [hlk]; exact harr) g1.len
      rw [show (vw W' id).n = cc.length by subst e'; exact g2]; exact this
    · subst e'; exact hs2.1.1
    · subst e'; exact hs2.1.2
    · subst e'; exact hs2.2
    · rw [show (vw W' id).n = cc.length by subst e'; exact g2]; exact h2
    · rw [ha0, ha1]; exact Hold.new (hcon _ hqm)
    · rw [ha0, ha1]; intro i hi
      rw [Int.neg_neg] at hi
      exact .inr ⟨j, by rw [hone i hi]; exact hj, hq⟩
    · rw [ha0, ha1, vw_l hq, show W'.list = W.list by subst e'; rfl]
      have hl := (hw.lo id hid).l q hq
      rw [vw_l hq, hs, vw_a (by omega), vw_a (by omega)] at hl
      rw [hl, ← e1]
      rcases hset with ⟨z1, z2⟩ | ⟨z1, z2⟩
      · rw [z1, z2]; rfl
      · rw [z1, z2, Bool.true_and, Bool.or_comm]; rfl
  exact ⟨hw.keep hid hoo (hL.ls fun a b H => H.mono (by omega)), hoo, by subst e'; unfold dueW; simp only []; rw [hs2.1.2, hs2.2]; rfl, hL⟩

theorem visit_b (hw : WI W cl ls c) (hid : id < 52) (hc : cl id = some cc) (hoth : ∀ j, (j < id * 12 ∨ id * 12 + 12 ≤ j) → lk j = W.lits j) (harr : Arr (fun j => lk (id * 12 + j)) cc.length cc) {v : Nat} {p q0 lt : Int} (hs : (vw W id).sd = true) (h2 : 2 ≤ cc.length) (hp : ls[c]? = some p) (hpm : -p ∉ ls) (hgp : gd p) (hgq : gd q0) (hgl : gd lt) (e0 : lk (id * 12) = q0) (e1 : lk (id * 12 + 1) = lt) (hset : (W.lits (id * 12) = q0 ∧ W.lits (id * 12 + 1) = -p) ∨ (W.lits (id * 12) = -p ∧ W.lits (id * 12 + 1) = q0)) (hq0 : q0 ≠ -p) (hlp : lt ≠ -p) (hln : -lt ∉ ls) {W' : WC} (e' : W' = { W with vis := v, lits := lk, list := upN (upN W.list (cdn (-p)) (wo (W.list (cdn (-p))) (2 ^ id))) (cdn lt) (upN W.list (cdn (-p)) (wo (W.list (cdn (-p))) (2 ^ id)) (cdn lt) ||| 2 ^ id) }) :
    WI W' cl ls c ∧ (∀ j, j ≠ id → vw W' j = vw W j) ∧ dueW W' id = false ∧ Go.Wat.Loc (vw W' id) (cl id) ls (c + 1) := by
  have hbit : ∀ q j, (W'.list q).testBit j = if j = id then (if q = cdn lt then true else if q = cdn (-p) then false else (W.list q).testBit j) else (W.list q).testBit j := fun q j => by
    subst e'; simp only [upN]
    by_cases z : j = id
    · subst z
      rw [if_pos rfl]
      by_cases a1 : q = cdn lt
      · rw [if_pos a1, if_pos a1, or_bit]; simp
      · rw [if_neg a1, if_neg a1]
        by_cases a2 : q = cdn (-p)
        · rw [if_pos a2, if_pos a2, wo_bit2]; simp
        · rw [if_neg a2, if_neg a2]
    · rw [if_neg z]
      by_cases a1 : q = cdn lt
      · rw [if_pos a1, or_ne z, ← a1]
        by_cases a2 : q = cdn (-p)
        · rw [if_pos a2, wo_ne z, ← a2]
        · rw [if_neg a2]
      · rw [if_neg a1]
        by_cases a2 : q = cdn (-p)
        · rw [if_pos a2, wo_ne z, ← a2]
        · rw [if_neg a2]
  have hoo : ∀ j, j ≠ id → vw W' j = vw W j :=
    vw_slot (fun j hj => by subst e'; rfl) (fun j hj => by subst e'; rfl) (fun j hj => by subst e'; rfl) (fun j hj => by subst e'; rfl) (by subst e'; exact hoth) (fun q j hj => by rw [hbit, if_neg hj])
  obtain ⟨g1, g2, _⟩ := wi_arr hw hid hc
  have hs2 := hs
  simp only [Vw.sd, vw, Bool.and_eq_true, Bool.not_eq_true'] at hs2
  have hlk : W'.lits = lk := by subst e'; rfl
  have ha0 : (vw W' id).a 0 = q0 := by rw [vw_a (by omega), hlk]; exact e0
  have ha1 : (vw W' id).a 1 = lt := by rw [vw_a (by omega), hlk, e1]
  obtain ⟨_, H0, H1⟩ := (hw.lo id hid).s hs
  rw [vw_a (by omega), vw_a (by omega)] at H0 H1
  simp only [Nat.add_zero] at H0 H1
  have hH : Hold ls c q0 (-p) := by
    rcases hset with ⟨z1, z2⟩ | ⟨z1, z2⟩
    · rw [z1, z2] at H0; exact H0
    · rw [z1, z2] at H1; exact H1
  have hgm : gd (-p) := by unfold gd at hgp ⊢; omega
  have hL : Go.Wat.Loc (vw W' id) (cl id) ls (c + 1) := by
    refine Go.Wat.Loc.sound hc g1 ?_ ?_ ?_ ?_ ?_ ?_ ?_ fun q hq => ?_
    · have : Arr (vw W' id).a cc.length cc := arr_vw (by rw [hlk]; exact harr) g1.len
      rw [show (vw W' id).n = cc.length by subst e'; exact g2]; exact this
    · subst e'; exact hs2.1.1
    · subst e'; exact hs2.1.2
    · subst e'; exact hs2.2
    · rw [show (vw W' id).n = cc.length by subst e'; exact g2]; exact h2
    · rw [ha0, ha1]; exact hH.past hpm hp hq0
    · rw [ha0, ha1]; exact Hold.new hln
    · rw [ha0, ha1, vw_l hq, hbit, if_pos rfl]
      have hl := (hw.lo id hid).l q hq
      rw [vw_l hq, hs, vw_a (by omega), vw_a (by omega), Nat.add_zero, Bool.true_and] at hl
      by_cases a1 : q = cdn lt
      · rw [if_pos a1, a1]; simp
      · rw [if_neg a1]
        by_cases a2 : q = cdn (-p)
        · rw [if_pos a2]
          have : ¬ cdn q0 = q := fun z => hq0 (cdn_inj hgq hgm (by rw [z, a2]))
          simp [this, Ne.symm a1]
        · rw [if_neg a2, hl]
          rcases hset with ⟨z1, z2⟩ | ⟨z1, z2⟩
          · rw [z1, z2]; simp [Ne.symm a1, Ne.symm a2]
          · rw [z1, z2]; simp [Ne.symm a1, Ne.symm a2]
  exact ⟨hw.keep hid hoo (hL.ls fun a b H => H.mono (by omega)), hoo, by subst e'; unfold dueW; simp only []; rw [hs2.1.2, hs2.2]; rfl, hL⟩
theorem visit_c (hw : WI W cl ls c) (hid : id < 52) (hc : cl id = some cc) (hoth : ∀ j, (j < id * 12 ∨ id * 12 + 12 ≤ j) → lk j = W.lits j) (harr : Arr (fun j => lk (id * 12 + j)) cc.length cc) {v : Nat} (hs : (vw W id).sd = true) (hset : (lk (id * 12) = W.lits (id * 12) ∧ lk (id * 12 + 1) = W.lits (id * 12 + 1)) ∨ (lk (id * 12) = W.lits (id * 12 + 1) ∧ lk (id * 12 + 1) = W.lits (id * 12))) {Wq : WC} (eq : Wq = { W with vis := v, lits := lk }) {W' : WC} (e' : W' = { Wq with list := ulL Wq id (cdn (lk (id * 12))) (cdn (lk (id * 12 + 1))), weak := W.weak ||| 2 ^ id }) :
    WI W' cl ls c ∧ (∀ j, j ≠ id → vw W' j = vw W j) ∧ W'.fresh.testBit id = false ∧ ∀ d, Go.Wat.Loc (vw W' id) (cl id) ls d := by
  have hoo : ∀ j, j ≠ id → vw W' j = vw W j := by
    subst e' eq
    exact vw_slot (fun j hj => rfl) (fun j hj => rfl) (fun j hj => or_ne hj) (fun j hj => rfl) hoth (fun q j hj => ul_oth q j hj)
  obtain ⟨g1, g2, _⟩ := wi_arr hw hid hc
  have hs2 := hs
  simp only [Vw.sd, vw, Bool.and_eq_true, Bool.not_eq_true'] at hs2
  have hlk : W'.lits = lk := by subst e' eq; rfl
  have hL : ∀ d, Go.Wat.Loc (vw W' id) (cl id) ls d := fun d => by
    refine Go.Wat.Loc.weak hc g1 ?_ ?_ ?_ ?_ fun q hq => ?_
    · have : Arr (vw W' id).a cc.length cc := arr_vw (by rw [hlk]; exact harr) g1.len
      rw [show (vw W' id).n = cc.length by subst e' eq; exact g2]; exact this
    · subst e' eq; exact hs2.1.1
    · subst e' eq; exact hs2.1.2
    · subst e' eq; simp only [vw]; rw [or_bit]; simp
    · rw [vw_l hq, show W'.list = ulL Wq id (cdn (lk (id * 12))) (cdn (lk (id * 12 + 1))) by subst e'; rfl, ul_bit, show Wq.list = W.list by subst eq; rfl]
      have hl := (hw.lo id hid).l q hq
      rw [vw_l hq, hs, vw_a (by omega), vw_a (by omega), Nat.add_zero, Bool.true_and] at hl
      rw [hl]
      rcases hset with ⟨z1, z2⟩ | ⟨z1, z2⟩ <;> rw [z1, z2, decide_eq_true (rfl : id = id)] <;> generalize decide (cdn (W.lits (id * 12)) = q) = x <;> generalize decide (cdn (W.lits (id * 12 + 1)) = q) = y <;> cases x <;> cases y <;> rfl
  exact ⟨hw.keep hid hoo (hL c), hoo, by subst e' eq; exact hs2.1.2, hL⟩
end lookL
end Go.Proofs.Qxb6500401aGreat
