import Derived.Test.Qxb6500401aGreatYf
import Derived.Test.Qxb6500401aGreatLf
set_option linter.unusedVariables false
set_option linter.unusedSimpArgs false
namespace Go.Proofs.Qxb6500401aGreat
open Go.Eng Go.Trl Go.Chk Go.Wat
/-! ### sound trails stay sound -/
theorem sn_add {cl : Nat → Option (List Int)} {L : List It} (h : Sn cl L) {id : Nat} (hn : cl id = none) (xs : List Int) : Sn (upO cl id (some xs)) L :=
  h.mono (fun i x hx n c h1 h2 h3 => by
    have : n ≠ id := fun q => by rw [q, hn] at h2; cases h2
    rw [upO_ne this]; exact h2)
theorem sn_rem {cl : Nat → Option (List Int)} {s : TS} (hok : Ok s) (h : Sn cl s.L) (id : Int) : Sn (remS cl s id) s.L := by
  by_cases hr : remV cl s id = 0
  · unfold remS; rw [if_pos hr]
    unfold remV at hr
    cases e : liveC cl id with
    | none => rw [e] at hr; cases hr
    | some c =>
      rw [e] at hr
      simp only [] at hr
      obtain ⟨n, c2, rfl, n1, n2, n3⟩ := liveS (cl := cl) (id := id) (by rw [e]; rfl)
      rw [e] at n3; cases n3
      rw [Int.toNat_natCast] at hr ⊢
      split at hr
      · cases hr
      · rename_i hlk
        refine h.mono (fun i x hx id c h1 h2 h3 => ?_)
        by_cases q : id = n
        · exfalso; apply hlk
          subst q
          rw [n2] at h2; cases h2
          obtain ⟨_, _, _, e4, e5⟩ := lt_at hok hx
          refine lockB_yes h3 ?_
          unfold lockL
          have hv : valO s x.lit = 1 := by
            have hm : x.lit ∈ lits s.L := mem_idx.2 ⟨i, lits_at hx⟩
            rcases vO3 (s := s) e5 with z | z | z
            · exact z.1
            · exact absurd z.2 (con_lits hok _ hm)
            · exact absurd hm z.2.1
          rw [hv, e4, h1]; simp
        · rw [upO_ne q]; exact h2
  · unfold remS; rw [if_neg hr]; exact h
theorem sn_dec {cl : Nat → Option (List Int)} {s : TS} (hok : Ok s) (h : Sn cl s.L) (x : Int) : Sn cl (decS s x).L := by
  unfold decS; split
  · exact h.app hok.lv (by simp only []; omega) (.inl ⟨rfl, rfl, by omega⟩)
  · exact h
theorem sn_bj {cl : Nat → Option (List Int)} {s : TS} (hok : Ok s) (h : Sn cl s.L) (j : Int) : Sn cl (bjS s j).L := by
  unfold bjS; split
  · exact h.take hok.lv _
  · exact h
theorem sn_chn {cl : Nat → Option (List Int)} {L L' : List It} {k : Nat} {b : Int} (h : Sn cl L) (hl : Lv L b (k : Int)) (hc : Chn cl k L L') : Sn cl L' := fun i x hx => by
  rcases Nat.lt_or_ge i L.length with q | q
  · have hi : L[i]? = some x := by rw [← hc.at q]; exact hx
    have ht : L'.take i = L.take i := by
      have := hc.2.1
      rw [← this, List.take_take, Nat.min_eq_left (by omega)]
    rcases h i x hi with z | z
    · left
      refine ⟨z.1, ?_, z.2.2⟩
      have hxl := (Lv_le hl).2 x (List.mem_of_getElem? hi)
      have hL : L' = L ++ L'.drop L.length := by
        have := List.take_append_drop L.length L'
        rw [hc.2.1] at this; exact this.symm
      unfold cnt
      rw [hL, List.filter_append, List.length_append]
      have hd : (L'.drop L.length).filter (fun y => decide (y.lev < x.lev)) = [] := by
        rw [List.filter_eq_nil_iff]
        intro y hy
        obtain ⟨n, hn⟩ := List.mem_iff_getElem?.1 hy
        rw [List.getElem?_drop] at hn
        have := (hc.2.2 (L.length + n) y (by omega) hn).1
        simp; omega
      rw [hd]
      have := z.2.1
      unfold cnt at this
      simpa using this
    · right; rw [ht]; exact z
  · exact .inr (hc.2.2 i x q hx).2
/-! ### the trail's lower parts -/
theorem back_chn {cl : Nat → Option (List Int)} {L L' : List It} {k : Nat} {j : Int} (hc : Chn cl k L L') (hj : j < k) : backL L' j = backL L j := by
  have hL : L' = L ++ L'.drop L.length := by
    have := List.take_append_drop L.length L'
    rw [hc.2.1] at this; exact this.symm
  have hd : (L'.drop L.length).filter (fun y => decide (y.lev < j + 1)) = [] := by
    rw [List.filter_eq_nil_iff]
    intro y hy
    obtain ⟨n, hn⟩ := List.mem_iff_getElem?.1 hy
    rw [List.getElem?_drop] at hn
    have := (hc.2.2 (L.length + n) y (by omega) hn).1
    simp; omega
  have hcn : cnt L' (j + 1) = cnt L (j + 1) := by
    unfold cnt; rw [hL, List.filter_append, hd, List.append_nil]
  unfold backL
  rw [hcn, hL, List.take_append_of_le_length (cnt_le _ _)]
theorem back_app {L : List It} {x : It} {j : Int} (hj : j < x.lev) : backL (L ++ [x]) j = backL L j := by
  unfold backL
  rw [cnt_app, if_neg (by omega), Nat.add_zero, List.take_append_of_le_length (cnt_le _ _)]
theorem back_all {L : List It} {b k j : Int} (h : Lv L b k) (hj : k ≤ j) : backL L j = L := by
  unfold backL; rw [cnt_all h (by omega), List.take_length]
theorem back_back {L : List It} {k c : Nat} (h : TI L k c) {i j : Int} (hij : i ≤ j) : backL (backL L j) i = backL L i := by
  have h1 : cnt L (i + 1) ≤ cnt L (j + 1) := by
    unfold cnt
    apply List.Sublist.length_le
    have : L.filter (fun x => decide (x.lev < i + 1)) = (L.filter (fun x => decide (x.lev < j + 1))).filter (fun x => decide (x.lev < i + 1)) := by
      rw [List.filter_filter]; apply List.filter_congr; intro x _
      by_cases e : x.lev < i + 1
      · simp [e]; omega
      · simp [e]
    rw [this]; exact List.filter_sublist
  have h2 : cnt (backL L j) (i + 1) = cnt L (i + 1) := by
    have h3 := (cnt_take (j + 1) h.lv).1
    unfold backL; rw [← h3]
    unfold cnt
    rw [List.filter_filter]
    congr 1
    apply List.filter_congr; intro x _
    by_cases e : x.lev < i + 1
    · simp [e]; omega
    · simp [e]
  unfold backL at h2 ⊢
  rw [h2, List.take_take, Nat.min_eq_left h1]
theorem mem_back {L : List It} {j : Int} {l : Int} (h : l ∈ lits (backL L j)) : l ∈ lits L := by
  unfold backL at h; rw [lits_take] at h; exact List.mem_of_mem_take h
/-- what the loop keeps of trail and store -/
structure CI (cl : Nat → Option (List Int)) (s : TS) : Prop where
  ok : Ok s
  sn : Sn cl s.L
  nl : NL cl
  lo : ∀ j : Nat, j < s.k → ∀ n c, n < 52 → cl n = some c → Done (· ∈ lits (backL s.L (j : Int))) c
theorem CI.prop {cl : Nat → Option (List Int)} {s s' : TS} (h : CI cl s) (pr : PR cl s s') (hok : Ok s') : CI cl s' :=
  ⟨hok, sn_chn h.sn h.ok.lv pr.ch, h.nl, fun j hj n c hn hc => by
    rw [pr.k] at hj
    rw [back_chn pr.ch (by omega)]; exact h.lo j hj n c hn hc⟩
theorem CI.dec {cl : Nat → Option (List Int)} {s : TS} (h : CI cl s) (hd : ∀ n c, n < 52 → cl n = some c → Done (· ∈ lits s.L) c) {x : Int} (hx : decE s x = 0) (hok : Ok (decS s x)) : CI cl (decS s x) := by
  refine ⟨hok, sn_dec h.ok h.sn x, h.nl, fun j hj n c hn hc => ?_⟩
  have e : decS s x = ⟨s.L ++ [⟨x, s.k + 1, -1⟩], s.k + 1, s.c⟩ := by unfold decS; rw [if_pos hx]
  rw [e] at hj ⊢
  simp only [] at hj ⊢
  rw [back_app (by simp only []; omega)]
  by_cases q : j = s.k
  · rw [back_all h.ok.lv (by omega)]; exact hd n c hn hc
  · exact h.lo j (by omega) n c hn hc
theorem CI.back {cl : Nat → Option (List Int)} {s : TS} (h : CI cl s) {j : Nat} (hj : j ≤ s.k) : CI cl (bjS s (j : Int)) := by
  have e : bjS s (j : Int) = ⟨backL s.L j, j, min s.c (cnt s.L ((j : Int) + 1))⟩ := by
    unfold bjS bjE; rw [if_neg (show ¬ ((j : Int) < 0 ∨ (s.k : Int) < j) by omega), if_pos rfl, Int.toNat_natCast]
  have hsn := sn_bj h.ok h.sn (j : Int)
  rw [e] at hsn ⊢
  refine ⟨TI.back h.ok hj, hsn, h.nl, fun i hi n c hn hc => ?_⟩
  simp only [] at hi ⊢
  rw [back_back h.ok (by omega)]; exact h.lo i (by omega) n c hn hc
theorem remS_sub {cl : Nat → Option (List Int)} {s : TS} {id : Int} {n : Nat} {c : List Int} (h : remS cl s id n = some c) : cl n = some c := by
  unfold remS at h; split at h
  · unfold upO at h; split at h
    · cases h
    · exact h
  · exact h
theorem CI.rem {cl : Nat → Option (List Int)} {s : TS} (h : CI cl s) (id : Int) : CI (remS cl s id) s :=
  ⟨h.ok, sn_rem h.ok h.sn id, fun n hn c hc => h.nl n hn c (remS_sub hc), fun j hj n c hn hc => h.lo j hj n c hn (remS_sub hc)⟩
theorem done_not {S : Int → Prop} {c : List Int} (hc : Con S) (hd : Done S c) : ¬ ∀ y ∈ c, S (-y) := fun h => by
  rcases hd with ⟨l, hl, ho⟩ | ⟨x, hx, _, _, _, h1, _⟩
  · exact hc l ho (h l hl)
  · exact h1 (h x hx)
/-- what a learnt clause is to the trail behind the jump -/
structure Lrn (g : Ans) (s : TS) : Prop where
  nr : Nrm g.lits
  am : g.asr ∈ g.lits
  a1 : g.asr ∉ lits s.L
  a2 : -g.asr ∉ lits s.L
  fs : ∀ y ∈ g.lits, y ≠ g.asr → -y ∈ lits s.L
  bk : s.k ≠ 0 → ∃ x ∈ g.lits, x ≠ g.asr ∧ ∀ j : Nat, j < s.k → -x ∉ lits (backL s.L (j : Int))
theorem Lrn.open12 {g : Ans} {s : TS} (h : Lrn g s) (hok : Ok s) : s.L.length ≤ 11 := by
  have hg := h.nr.1 _ h.am
  have hn : New s.L (vr g.asr) := by
    unfold New; rw [loc_none]; intro x hx e
    obtain ⟨i, hi⟩ := List.mem_iff_getElem?.1 hx
    have hm := lits_at hi
    rcases vr_eq e with q | q
    · exact h.a1 (q ▸ mem_idx.2 ⟨i, hm⟩)
    · exact h.a2 (q ▸ mem_idx.2 ⟨i, hm⟩)
  have := (TI.app (x := ⟨g.asr, s.k, -1⟩) hok hg (by simp only []; omega) hn (.inl rfl) (k' := s.k) rfl).len
  simp at this; omega
theorem CI.add {cl : Nat → Option (List Int)} {s : TS} {g : Ans} (h : CI cl s) (hl : Lrn g s) {id : Nat} (hn : cl id = none) : CI (upO cl id (some g.lits)) s := by
  refine ⟨h.ok, sn_add h.sn hn _, fun n hn c hc => ?_, fun j hj n c hn hc => ?_⟩
  · unfold upO at hc; split at hc
    · cases hc; exact hl.nr
    · exact h.nl n hn c hc
  · unfold upO at hc; split at hc
    · cases hc
      obtain ⟨x, hx, hxa, hxo⟩ := hl.bk (by omega)
      exact .inr ⟨g.asr, hl.am, x, hx, fun e => hxa e.symm, fun q => hl.a2 (mem_back q), hxo j hj⟩
    · exact h.lo j hj n c hn hc
/-! ### a conflict -/
theorem hiL_hit {s : TS} {a : Int} : ∀ (l : List Int) (b : Int), l.foldl (fun b x => if x = a then b else if b < levV s.L (x.natAbs : Int) then levV s.L (x.natAbs : Int) else b) b = b ∨ ∃ x ∈ l, x ≠ a ∧ levV s.L (x.natAbs : Int) = l.foldl (fun b x => if x = a then b else if b < levV s.L (x.natAbs : Int) then levV s.L (x.natAbs : Int) else b) b
  | [], b => .inl rfl
  | y :: l, b => by
    rw [List.foldl_cons]
    by_cases e : y = a
    · rw [if_pos e]
      rcases hiL_hit l b with q | ⟨x, h1, h2, h3⟩
      · exact .inl q
      · exact .inr ⟨x, List.mem_cons_of_mem _ h1, h2, h3⟩
    · rw [if_neg e]
      by_cases e2 : b < levV s.L (y.natAbs : Int)
      · rw [if_pos e2]
        rcases hiL_hit l (levV s.L (y.natAbs : Int)) with q | ⟨x, h1, h2, h3⟩
        · exact .inr ⟨y, by simp, e, q.symm⟩
        · exact .inr ⟨x, List.mem_cons_of_mem _ h1, h2, h3⟩
      · rw [if_neg e2]
        rcases hiL_hit l b with q | ⟨x, h1, h2, h3⟩
        · exact .inl q
        · exact .inr ⟨x, List.mem_cons_of_mem _ h1, h2, h3⟩
theorem af_live {cl : Nat → Option (List Int)} {id : Nat} {ls : List Int} (hid : id < 52) (h : AF cl id ls) : ∃ c, cl id = some c ∧ liveC cl (id : Int) = some c ∧ ∀ y ∈ c, -y ∈ ls := by
  obtain ⟨c, h1, h2⟩ := h
  exact ⟨c, h1, by unfold liveC; rw [if_pos (by omega), Int.toNat_natCast]; exact h1, h2⟩
theorem all_val {s : TS} (hok : Ok s) {c : List Int} (hg : ∀ x ∈ c, gd x) (h : ∀ y ∈ c, -y ∈ lits s.L) : (c.all fun x => decide (valO s x = -1)) = true := by
  rw [List.all_eq_true]; intro x hx
  have hm := h x hx
  rcases vO3 (s := s) (hg x hx) with q | q | q
  · exact absurd hm (con_lits hok x q.2)
  · exact decide_eq_true q.1
  · exact absurd hm q.2.2
theorem conf_ok {cl : Nat → Option (List Int)} {s : TS} (h : CI cl s) (hk : s.k ≠ 0) {id : Nat} (hid : id < 52) (ha : AF cl id (lits s.L)) : (ansF s cl (id : Int)).err = 0 := by
  obtain ⟨c, h1, h2, h3⟩ := af_live hid ha
  have hnc := h.nl id hid c h1
  have hv := all_val h.ok hnc.1 h3
  have hf := all_fal h.ok hnc.1 hv
  have hd := h.lo (s.k - 1) (by omega) id c hid h1
  have hbk : backL s.L ((s.k - 1 : Nat) : Int) = s.L.take (mF s) := by
    unfold backL mF; congr 2; omega
  rw [hbk] at hd
  have hcI : cI (iC s c) (mF s) s.L.length ≠ 0 := by
    rcases hd with ⟨l, hl, ho⟩ | ⟨x, hx, _, _, _, hxo, _⟩
    · exfalso
      rw [lits_take] at ho
      exact con_lits h.ok l (List.mem_of_mem_take ho) (h3 l hl)
    · obtain ⟨i, i1, i2⟩ := hf x hx
      have him : mF s ≤ i := by
        rcases Nat.lt_or_ge i (mF s) with q | q
        · exfalso; apply hxo
          rw [lits_take, mem_idx]
          exact ⟨i, by rw [List.getElem?_take, if_pos q, ← i2]; exact lt_mem h.ok i1⟩
        · exact q
      have := cI_one (I := iC s c) him i1 (by unfold iC; exact decide_eq_true ⟨i1, by rw [i2, Int.neg_neg]; exact hx⟩)
      omega
  unfold ansF
  rw [h2]
  simp only []
  rw [if_pos hv, if_neg (fun q => Or.elim q hk hcI)]
  obtain ⟨j0, ht, _, _⟩ := clmb_eq h.ok h.sn hk hf hcI
  exact (swp h.ok ht hk 12 (Nat.le_refl _)).er
theorem conf_end {cl : Nat → Option (List Int)} {s : TS} (h : CI cl s) (hk : s.k = 0) {id : Nat} (hid : id < 52) (ha : AF cl id (lits s.L)) : (ansF s cl (id : Int)).err = 10 ∧ ¬ Fix (rowsS cl 52) (deny []) := by
  obtain ⟨c, h1, h2, h3⟩ := af_live hid ha
  have hnc := h.nl id hid c h1
  have hv := all_val h.ok hnc.1 h3
  have hf := all_fal h.ok hnc.1 hv
  refine ⟨by unfold ansF; rw [h2]; simp only []; rw [if_pos hv, if_pos (.inl hk)], ?_⟩
  rintro ⟨S, _, hc, hd⟩
  have hR : ∀ id c, id < 52 → cl id = some c → c ∈ rowsS cl 52 := fun id c q1 q2 => mem_rows.2 ⟨id, q1, q2⟩
  have hz := rup_zero h.ok h.sn hR hc hd
  have hcn : cnt s.L 1 = s.L.length := cnt_all h.ok.lv (by omega)
  refine done_not hc (hd c (hR id c hid h1)) (fun y hy => ?_)
  obtain ⟨i, i1, i2⟩ := hf y hy
  rw [← i2]; exact hz i (by omega)
theorem bj_eq {s : TS} {j : Nat} (hj : j ≤ s.k) : bjS s (j : Int) = ⟨backL s.L j, j, min s.c (cnt s.L ((j : Int) + 1))⟩ := by
  unfold bjS bjE; rw [if_neg (show ¬ ((j : Int) < 0 ∨ (s.k : Int) < j) by omega), if_pos rfl, Int.toNat_natCast]
theorem lrn_of {cl : Nat → Option (List Int)} {s : TS} (h : CI cl s) {c : List Int} {j0 : Nat} {g : Ans} (hg : AnK s cl c j0 g) : ∃ j : Nat, g.back = j ∧ j < s.k ∧ Lrn g (bjS s g.back) := by
  obtain ⟨b1, b2, b3⟩ := hg.back h.ok
  obtain ⟨j, hj⟩ : ∃ j : Nat, g.back = j := ⟨g.back.toNat, by omega⟩
  refine ⟨j, hj, by omega, ?_⟩
  have hjk : j ≤ s.k := by omega
  have haj : -g.asr = ltF s j0 := by rw [hg.asr, Int.neg_neg]
  have hcon := con_lits h.ok
  rw [hj, bj_eq hjk]
  have hb : ∀ l, l ∈ lits (backL s.L (j : Int)) → l ∈ lits s.L := fun l hl => mem_back hl
  have hlev : ∀ y ∈ g.lits, ∀ q : Int, (-y ∈ lits (backL s.L q) ↔ levV s.L (y.natAbs : Int) ≤ q) := fun y hy q => by
    obtain ⟨i, i1, i3⟩ := AnK.idx h.ok hg hy
    obtain ⟨z, hz⟩ := item h.ok i1
    obtain ⟨e1, _, e3, _⟩ := lt_at h.ok hz
    rw [show y.natAbs = z.lit.natAbs by rw [← e1, i3]; omega, e3]
    have hc := lev_cnt h.ok hz (q + 1)
    constructor
    · intro hm
      unfold backL at hm
      obtain ⟨i', q1, q2, q3⟩ := lt_idx h.ok hm
      have : i' = i := lt_inj h.ok q2 i1 (by rw [q3, i3])
      subst this
      have := hc.2 q1; omega
    · intro hle
      have := hc.1 (by omega)
      unfold backL
      rw [lits_take, ← i3, mem_idx]
      exact ⟨i, by rw [List.getElem?_take, if_pos this]; exact lt_mem h.ok i1⟩
  have ham := hg.a_mem h.ok
  refine ⟨hg.nr, ham, fun q => ?_, fun q => ?_, fun y hy hn => ?_, fun hk => ?_⟩
  · refine hcon _ (hb _ q) ?_
    rw [haj]; exact mem_idx.2 ⟨j0, lt_mem h.ok hg.tp.lt⟩
  · have := (hlev _ ham j).1 q
    have h2 := (hg.lev h.ok ham).2 rfl
    omega
  · exact (hlev y hy j).2 (by have := b3 y hy hn; omega)
  · simp only [] at hk ⊢
    have hbk := hg.bk
    unfold hiL at hbk
    rcases hiL_hit (s := s) (a := -(ltF s j0)) g.lits 0 with q | ⟨x, q1, q2, q3⟩
    · rw [q] at hbk; omega
    · refine ⟨x, q1, by rw [hg.asr]; exact q2, fun i hi hm => ?_⟩
      rw [back_back h.ok (by omega)] at hm
      have := (hlev x q1 i).1 hm
      rw [q3, ← hbk] at this; omega
end Go.Proofs.Qxb6500401aGreat
