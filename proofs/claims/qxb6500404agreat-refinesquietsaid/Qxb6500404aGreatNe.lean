import Derived.Test.Qxb6500404aGreatNd
set_option linter.unusedVariables false
set_option linter.unusedSimpArgs false
namespace Go.Blk
open Go.Bits Go.Huf
open Go.Lz (Tok toks tokF advF parseF nF bestF byt tok_lit tok_dup nF_pos best_range adv_pos adv_le parse_nil toks_len spanF limF bestTo bestTo_le later span_uniq best_zero)
open Go.Eng (bAt mkS)
open Go.Proofs.Qxb6500404aGreat.HufW (lensE fndI lensE_lw PQ plan_pq planR_ok liv_le okL)
/-! ### lawful tokens -/
def Tk (t : Tok) : Prop := (∃ b : Nat, b < 256 ∧ t = ⟨0, 0, (b : Int)⟩) ∨ ∃ n d : Nat, 3 ≤ n ∧ n ≤ 10 ∧ 1 ≤ d ∧ d ≤ 16 ∧ t = ⟨(n : Int), (d : Int), 0⟩
theorem tokF_tk (u : ByteArray) (level : Int) (i : Nat) : Tk (tokF u level i) := by
  by_cases hn : nF u level i = 0
  · exact .inl ⟨bAt u i, Go.Lz.bAt_lt u i, (tok_lit hn).1⟩
  · have hnp := nF_pos hn
    have hne : (bestF u i).1 ≠ 0 := by omega
    obtain ⟨r1, r2, r3, r4, _⟩ := best_range hne
    exact .inr ⟨_, _, r1, r2, r3, r4, (tok_dup hnp.1 hne).1⟩
theorem parse_tk (u : ByteArray) (level : Int) : ∀ (f i : Nat), ∀ t, t ∈ parseF u level f i → Tk t
  | 0, i, t, h => by cases h
  | f + 1, i, t, h => by
    rw [parseF] at h
    split at h
    · rcases List.mem_cons.1 h with e | e
      · rw [e]; exact tokF_tk u level i
      · exact parse_tk u level f _ t e
    · cases h
theorem toks_tk (u : ByteArray) (level : Int) : ∀ t, t ∈ toks u level → Tk t := parse_tk u level _ _
/-! ### counts and costs -/
def cn1 (t : Tok) (s : Nat) : Nat := if t.len = 0 then (if s = t.lit.toNat then 1 else 0) else (if s = t.len.toNat + 254 then 1 else 0) + (if s = 265 + dC t.dist.toNat then 1 else 0)
def cnT : List Tok → Nat → Nat
  | [], s => if s = 256 then 1 else 0
  | t :: T, s => cnT T s + cn1 t s
theorem cnT_snoc (T : List Tok) (t : Tok) (s : Nat) : cnT (T ++ [t]) s = cnT T s + cn1 t s := by
  induction T with
  | nil => rfl
  | cons q T ih => simp only [List.cons_append, cnT, ih]; omega
theorem cn1_le (t : Tok) (s : Nat) : cn1 t s ≤ 2 := by
  unfold cn1
  repeat' split
  all_goals omega
theorem cnT_le (T : List Tok) (s : Nat) : cnT T s ≤ 1 + 2 * T.length := by
  induction T with
  | nil => rw [cnT]; split <;> simp
  | cons q T ih => have := cn1_le q s; rw [cnT, List.length_cons]; omega
theorem cnT_256 (T : List Tok) : 0 < cnT T 256 := by
  induction T with
  | nil => rw [cnT, if_pos rfl]; omega
  | cons q T ih => rw [cnT]; omega
theorem cnT_mem {T : List Tok} {t : Tok} (h : t ∈ T) (s : Nat) : cn1 t s ≤ cnT T s := by
  induction T with
  | nil => cases h
  | cons q T ih =>
    rw [cnT]
    rcases List.mem_cons.1 h with e | e
    · rw [e]; omega
    · have := ih e; omega
theorem cn1_lit (b s : Nat) : cn1 ⟨0, 0, (b : Int)⟩ s = if s = b then 1 else 0 := by unfold cn1; rw [if_pos rfl]; rfl
theorem cn1_dup {n : Nat} (d s : Nat) (h : n ≠ 0) : cn1 ⟨(n : Int), (d : Int), 0⟩ s = (if s = n + 254 then 1 else 0) + if s = 265 + dC d then 1 else 0 := by unfold cn1; rw [if_neg (by simp only []; omega)]; rfl
/-- further bits of a cell -/
def mo (s : Nat) : Nat := if s < 265 then 0 else dM (s - 265)
def bdC (l : List Nat) (c : Nat → Nat) : Nat := sm (fun s => c s * (l.getD s 0 + mo s)) 273
theorem sm_pick {w : Nat → Nat} {a N : Nat} (h : a < N) : sm (fun s => (if s = a then 1 else 0) * w s) N = w a := by
  have := sm_one (f := fun s => (if s = a then 1 else 0) * w s) (g := fun _ => 0) h (fun i _ e => by rw [if_neg e]; simp)
  have h2 : (if a = a then 1 else 0) * w a = w a := by rw [if_pos rfl, Nat.one_mul]
  rw [sm_zero (f := fun _ => 0) (fun _ _ => rfl)] at this
  rw [h2] at this
  omega
theorem bd_add (l : List Nat) (c d : Nat → Nat) : bdC l (fun s => c s + d s) = bdC l c + bdC l d := by
  unfold bdC
  rw [← sm_add]
  exact sm_congr fun i _ => by rw [Nat.add_mul]
theorem bd_pick (l : List Nat) {a : Nat} (h : a < 273) : bdC l (fun s => if s = a then 1 else 0) = l.getD a 0 + mo a := sm_pick (w := fun s => l.getD s 0 + mo s) h
theorem ln_tp {l : List Nat} {t : Tok} (ht : Tk t) : ln (tp (cf (lA l)) (cf (lB l)) t) = bdC l (cn1 t) := by
  rcases ht with ⟨b, h1, e⟩ | ⟨n, d, h1, h2, h3, h4, e⟩
  · subst e
    rw [tp_lit, show cn1 ⟨0, 0, (b : Int)⟩ = fun s => if s = b then 1 else 0 from funext fun s => cn1_lit b s, bd_pick l (by omega)]
    simp only [ln, sp]; rw [cf_lA (by omega)]; unfold mo; rw [if_pos (by omega)]
  · subst e
    obtain ⟨d1, d2, d3, d4⟩ := dC_is h3 h4
    rw [tp_dup _ _ _ (by omega), show cn1 ⟨(n : Int), (d : Int), 0⟩ = fun s => (if s = n + 254 then 1 else 0) + if s = 265 + dC d then 1 else 0 from funext fun s => cn1_dup d s (by omega), bd_add, bd_pick l (by omega), bd_pick l (by omega)]
    simp only [ln, sp]; rw [cf_lA (by omega), cf_lB]; unfold mo; rw [if_pos (by omega), if_neg (by omega), show 265 + dC d - 265 = dC d by omega]; omega
theorem ln_bp {l : List Nat} : ∀ {T : List Tok}, (∀ t, t ∈ T → Tk t) → ln (bp (cf (lA l)) (cf (lB l)) T) = bdC l (cnT T)
  | [], _ => by
    rw [show cnT [] = fun s => if s = 256 then 1 else 0 from rfl, bd_pick l (by omega)]
    simp only [bp, ln, sp]; rw [cf_lA (by omega)]; unfold mo; rw [if_pos (by omega)]
  | t :: T, h => by
    rw [bp, ln_app, ln_tp (h t (by simp)), ln_bp (fun q hq => h q (List.mem_cons_of_mem _ hq)), show cnT (t :: T) = fun s => cnT T s + cn1 t s from rfl, bd_add]; omega
/-! ### the planned lengths -/
def cA (c : Nat → Nat) : List Int := il 265 c
def cB (c : Nat → Nat) : List Int := il 8 fun j => c (265 + j)
def dyL (c : Nat → Nat) : List Nat := (List.range 265).map (planL (cA c) 10) ++ (List.range 8).map (planL (cB c) 10)
theorem dy_len (c : Nat → Nat) : (dyL c).length = 273 := by unfold dyL; rw [List.length_append, List.length_map, List.length_map, List.length_range, List.length_range]
theorem dy_A (c : Nat → Nat) : lA (dyL c) = il 265 (planL (cA c) 10) := by
  unfold lA dyL
  rw [List.take_append_of_le_length (by simp), List.take_of_length_le (by simp)]
  simp [li, il]
theorem dy_B (c : Nat → Nat) : lB (dyL c) = il 8 (planL (cB c) 10) := by
  unfold lB dyL
  rw [List.drop_append_of_le_length (by simp), List.drop_of_length_le (by simp), List.nil_append]
  simp [li, il]
theorem il_cf {N : Nat} {c : Nat → Nat} {i : Nat} (h : i < N) : cf (il N c) i = c i := by unfold cf; rw [il_at h]; rfl
theorem plan_ok {N : Nat} {c : Nat → Nat} (hN : N ≤ 265) (h : ∀ i, i < N → c i ≤ 1048576) : planE (il N c) ((10 : Nat) : Int) = 0 := by
  unfold planE
  rw [il_len, if_neg (by omega), if_neg (by omega), if_neg (fun e => e fun j hj => by rw [il_len] at hj; rw [il_at hj]; have := h j hj; omega), if_neg]
  have := liv_le (cf (il N c)) N
  rw [show ((10 : Nat) : Int).toNat = 10 from rfl]; omega
structure CO (c : Nat → Nat) : Prop where
  le : ∀ i, c i ≤ 1048576
  e : 0 < c 256
section co
variable {c : Nat → Nat}
theorem CO.pA (hc : CO c) : PQ (cA c) 10 := plan_pq (plan_ok (Nat.le_refl _) fun i _ => hc.le i)
theorem CO.pB (hc : CO c) : PQ (cB c) 10 := plan_pq (plan_ok (by omega) fun i _ => hc.le _)
theorem CO.rA (hc : CO c) : planR (cA c) 10 = lA (dyL c) := by
  rw [dy_A]; have := planR_ok (L := 10) (plan_ok (N := 265) (c := c) (Nat.le_refl _) fun i _ => hc.le i); rw [il_len] at this; exact this
theorem CO.rB (hc : CO c) : planR (cB c) 10 = lB (dyL c) := by
  rw [dy_B]; have := planR_ok (L := 10) (plan_ok (N := 8) (c := fun j => c (265 + j)) (by omega) fun i _ => hc.le _); rw [il_len] at this; exact this
theorem CO.at (hc : CO c) {i : Nat} (hi : i < 273) : (dyL c).getD i 0 ≤ 10 ∧ ((dyL c).getD i 0 = 0 ↔ c i = 0) := by
  rcases Nat.lt_or_ge i 265 with q | q
  · rw [← cf_lA q, dy_A, il_cf q]
    have h1 := hc.pA.le i (by rw [cA, il_len]; exact q)
    have h2 := hc.pA.z i (by rw [cA, il_len]; exact q)
    rw [cA, il_cf q] at h2
    exact ⟨h1, h2⟩
  · obtain ⟨j, rfl⟩ : ∃ j, i = 265 + j := ⟨i - 265, by omega⟩
    rw [← cf_lB, dy_B, il_cf (by omega)]
    have h1 := hc.pB.le j (by rw [cB, il_len]; omega)
    have h2 := hc.pB.z j (by rw [cB, il_len]; omega)
    rw [cB, il_cf (by omega)] at h2
    exact ⟨h1, h2⟩
theorem CO.mem (hc : CO c) : ∀ x, x ∈ dyL c → x ≤ 10 := fun x hx => by
  obtain ⟨i, hi, e⟩ := List.getElem_of_mem hx
  rw [dy_len] at hi
  have h1 := (hc.at hi).1
  rw [List.getD_eq_getElem?_getD, List.getElem?_eq_getElem (by rw [dy_len]; exact hi), Option.getD_some, e] at h1
  exact h1
theorem CO.coE (hc : CO c) : coE (dyL c) = 0 := by
  have h1 := hc.pA.e
  have h2 := hc.pB.e
  have e10 : ((10 : Nat) : Int) = 10 := rfl
  rw [e10, hc.rA] at h1
  rw [e10, hc.rB] at h2
  unfold Blk.coE
  rw [h1, h2, if_neg (by simp), if_neg (by simp), if_neg]
  have := (hc.at (i := 256) (by omega)).2
  have h3 := hc.e
  omega
end co
theorem cnT_co {T : List Tok} (h : T.length ≤ 256) : CO (cnT T) := ⟨fun i => by have := cnT_le T i; omega, cnT_256 T⟩
/-! ### the cheapest -/
def cS (u : ByteArray) : Nat := 8 * (3 + u.size)
def cF (T : List Tok) : Nat := 3 + bdC fixL (cnT T)
def cD (T : List Tok) : Nat := 3 + ib (itG none (dyL (cnT T))) + bdC (dyL (cnT T)) (cnT T)
def kdF (u : ByteArray) (T : List Tok) : Nat := if cS u ≤ cF T ∧ cS u ≤ cD T then 0 else if cF T ≤ cD T then 1 else 2
def leF (u : ByteArray) (T : List Tok) : List Nat := if kdF u T = 2 then dyL (cnT T) else fixL
def ctF (u : ByteArray) (T : List Tok) : Nat := if kdF u T = 0 then cS u else if kdF u T = 1 then cF T else cD T
def psF (u : ByteArray) (T : List Tok) : List (Nat × Nat) := emP (kdF u T) u T (leF u T)
theorem kd_le (u : ByteArray) (T : List Tok) : kdF u T ≤ 2 := by
  unfold kdF
  repeat' split
  all_goals omega
theorem ct_least (u : ByteArray) (T : List Tok) : ctF u T ≤ cS u ∧ ctF u T ≤ cF T := by
  unfold ctF kdF
  repeat' split
  all_goals omega
/-- the bits that are laid are the bits that were counted -/
theorem ln_ps {u : ByteArray} {T : List Tok} (hT : ∀ t, t ∈ T → Tk t) : ln (psF u T) = ctF u T := by
  unfold psF emP ctF leF
  by_cases h0 : kdF u T = 0
  · rw [if_pos h0, if_pos h0]; simp only [ln_cons, stp_ln]; unfold cS; omega
  · rw [if_neg h0, if_neg h0]
    simp only [ln_cons, ln_app]
    rw [ln_bp hT]
    by_cases h2 : kdF u T = 2
    · rw [if_pos h2, if_pos h2, if_neg (by omega), ln_ips]; unfold cD; omega
    · have := kd_le u T
      rw [if_neg h2, if_neg h2, if_pos (by omega)]; unfold cF; simp only [ln]; omega
theorem le_ok {u : ByteArray} {T : List Tok} (h : T.length ≤ 256) : (leF u T).length = 273 ∧ (∀ x, x ∈ leF u T → x ≤ 10) ∧ coE (leF u T) = 0 := by
  unfold leF
  split
  · exact ⟨dy_len _, (cnT_co h).mem, (cnT_co h).coE⟩
  · exact ⟨fix_len, fix_le, fix_e⟩
theorem fix_at {i : Nat} (h : i < 273) : fixL.getD i 0 = if i < 247 then 8 else if i < 265 then 9 else 3 := by
  unfold fixL
  rw [List.getD_eq_getElem?_getD]
  by_cases h1 : i < 247
  · rw [if_pos h1, List.append_assoc, List.getElem?_append_left (by rw [List.length_replicate]; exact h1), List.getElem?_replicate, if_pos h1]; rfl
  · by_cases h2 : i < 265
    · rw [if_neg h1, if_pos h2, List.getElem?_append_left (by rw [List.length_append, List.length_replicate, List.length_replicate]; omega), List.getElem?_append_right (by rw [List.length_replicate]; omega), List.getElem?_replicate, if_pos (by rw [List.length_replicate]; omega)]; rfl
    · rw [if_neg h1, if_neg h2, List.getElem?_append_right (by rw [List.length_append, List.length_replicate, List.length_replicate]; omega), List.getElem?_replicate, if_pos (by rw [List.length_append, List.length_replicate, List.length_replicate]; omega)]; rfl
/-- every symbol that the tokens use has a code -/
theorem us_of {l : List Nat} {T : List Tok} (hT : ∀ t, t ∈ T → Tk t) (h : ∀ i, i < 273 → 0 < cnT T i → 0 < l.getD i 0) : Us (cf (lA l)) (cf (lB l)) T := fun t ht => by
  rcases hT t ht with ⟨b, h1, e⟩ | ⟨n, d, h1, h2, h3, h4, e⟩
  · subst e
    refine ⟨fun _ => ?_, fun z => absurd rfl z⟩
    rw [Int.toNat_natCast, cf_lA (by omega)]
    refine h b (by omega) ?_
    have := cnT_mem ht b
    rw [cn1_lit, if_pos rfl] at this; omega
  · subst e
    obtain ⟨d1, _⟩ := dC_is h3 h4
    refine ⟨fun z => by simp only [] at z; omega, fun _ => ?_⟩
    simp only [Int.toNat_natCast]
    rw [cf_lA (by omega), cf_lB]
    refine ⟨h _ (by omega) ?_, h _ (by omega) ?_⟩
    · have := cnT_mem ht (n + 254); rw [cn1_dup _ _ (by omega), if_pos rfl] at this; omega
    · have := cnT_mem ht (265 + dC d); rw [cn1_dup _ _ (by omega), if_pos (rfl : 265 + dC d = 265 + dC d)] at this; omega
theorem le_us {u : ByteArray} {T : List Tok} (hT : ∀ t, t ∈ T → Tk t) (h : T.length ≤ 256) : Us (cf (lA (leF u T))) (cf (lB (leF u T))) T := by
  refine us_of hT fun i hi hp => ?_
  unfold leF
  split
  · have := ((cnT_co h).at hi).2; omega
  · rw [fix_at hi]; repeat' split
    all_goals omega
theorem sp_vd {l : Nat → Nat} {N v : Nat} (hw : Lw l N) (hv : v < N) : (sp l N v).1 < 2 ^ (sp l N v).2 ∧ (sp l N v).2 ≤ 16 := ⟨Ln.cd_lt v, by have := hw.ln.le v hv; simp only [sp]; omega⟩
theorem bp_vd {la lb : Nat → Nat} (hA : Lw la 265) (hB : Lw lb 8) : ∀ {T : List Tok}, (∀ t, t ∈ T → Tk t) → Vd (bp la lb T)
  | [], _ => Vd.cons (sp_vd hA (by omega)).1 (sp_vd hA (by omega)).2 Vd.nil
  | t :: T, h => by
    rw [bp]
    refine Vd.app ?_ (bp_vd hA hB fun q hq => h q (List.mem_cons_of_mem _ hq))
    rcases h t (by simp) with ⟨b, h1, e⟩ | ⟨n, d, h1, h2, h3, h4, e⟩
    · subst e; rw [tp_lit]; exact Vd.cons (sp_vd hA (by omega)).1 (sp_vd hA (by omega)).2 Vd.nil
    · subst e
      obtain ⟨d1, d2, d3, d4⟩ := dC_is h3 h4
      rw [tp_dup _ _ _ (by omega)]
      exact Vd.cons (sp_vd hA (by omega)).1 (sp_vd hA (by omega)).2 (Vd.cons (sp_vd hB d1).1 (sp_vd hB d1).2 (Vd.cons d3 (by simp only []; omega) Vd.nil))
theorem ps_vd {u : ByteArray} {T : List Tok} (hu : u.size ≤ 256) (hT : ∀ t, t ∈ T → Tk t) (h : T.length ≤ 256) : Vd (psF u T) := by
  obtain ⟨h1, h2, h3⟩ := le_ok (u := u) h
  obtain ⟨wA, wB, _⟩ := co_lw h1 h3
  have hk := kd_le u T
  unfold psF emP
  split
  · exact Vd.cons (by simp) (by simp) (Vd.cons (by simp) (by simp) (Vd.cons (by simp) (by simp) (Vd.cons (by simp only []; omega) (by simp) (stp_vd u _ _))))
  · refine Vd.cons (by simp) (by simp) (Vd.cons (by simp only []; omega) (by simp) (Vd.app ?_ (bp_vd wA wB hT)))
    split
    · exact (itG_ok _ _ none (Nat.le_refl _) h2).1
    · exact Vd.nil
/-- what Pack answers -/
def pkF (u : ByteArray) (level : Int) : ByteArray := txt (nm (psF u (toks u level))) (ln (psF u (toks u level)))
theorem pk_run {u : ByteArray} (hu : u.size ≤ 256) (level : Int) : ∃ s, ruF (pkF u level) = ⟨byt u u.size, 0, 0, s⟩ := by
  have hl : (toks u level).length ≤ 256 := Nat.le_trans (toks_len u level) hu
  have hT := toks_tk u level
  obtain ⟨h1, h2, h3⟩ := le_ok (u := u) hl
  have hln := ln_ps (u := u) hT
  have hct := (ct_least u (toks u level)).1
  refine run_emit hu (kd_le _ _) h1 h2 h3 (fun e => by unfold leF; rw [if_neg (by omega)]) (le_us hT hl) (ps_vd hu hT hl) ?_
  have : ln (psF u (toks u level)) ≤ 4096 := by rw [hln]; unfold cS at hct; omega
  exact this
theorem pk_size {u : ByteArray} (level : Int) : (pkF u level).size = (ctF u (toks u level) + 7) / 8 ∧ (pkF u level).size ≤ u.size + 3 := by
  have h1 := txt_size (nm (psF u (toks u level))) (ln (psF u (toks u level)))
  rw [ln_ps (toks_tk u level)] at h1
  have hct := (ct_least u (toks u level)).1
  have : (pkF u level).size = (ctF u (toks u level) + 7) / 8 := by unfold pkF; rw [txt_size, ln_ps (toks_tk u level)]
  unfold cS at hct
  exact ⟨this, by omega⟩
/-! ### THE WORK: texts with a period -/
def Pd (u : ByteArray) (p : Nat) : Prop := ∀ i, p ≤ i → i < u.size → bAt u i = bAt u (i - p)
theorem bestTo_ge (u : ByteArray) (i : Nat) : ∀ (d k : Nat), 1 ≤ k → k ≤ d → spanF u (i - k) i (limF u i) ≤ (bestTo u i d).1
  | 0, k, h1, h2 => by omega
  | d + 1, k, h1, h2 => by
    rw [bestTo]
    by_cases e : k = d + 1
    · subst e; split
      · exact Nat.le_refl _
      · omega
    · have := bestTo_ge u i d k h1 (by omega)
      split
      · rename_i hq; exact Nat.le_trans this (Nat.le_of_lt hq)
      · exact this
theorem pd_best {u : ByteArray} {p i : Nat} (h : Pd u p) (h1 : 1 ≤ p) (h2 : p ≤ 16) (hi : p ≤ i) : (bestF u i).1 = if limF u i < 3 then 0 else limF u i := by
  have hs : spanF u (i - p) i (limF u i) = limF u i := span_uniq (Nat.le_refl _) (fun j hj => by
    have hl : limF u i ≤ u.size - i := by unfold limF; omega
    have := h (i + j) (by omega) (by omega)
    rw [this, show i + j - p = i - p + j by omega]) (.inl rfl)
  have h3 := bestTo_ge u i (min 16 i) p h1 (by omega)
  have h4 := bestTo_le u i (min 16 i)
  rw [hs] at h3
  unfold bestF
  by_cases e : limF u i < 3
  · rw [if_pos e, if_pos (by omega)]
  · rw [if_neg e, if_neg (by omega)]; omega
theorem pd_nF {u : ByteArray} {p i : Nat} (h : Pd u p) (h1 : 1 ≤ p) (h2 : p ≤ 16) (hi : p ≤ i) {level : Int} (hl : level ≠ 0) : nF u level i = if limF u i < 3 then 0 else limF u i := by
  have hb := pd_best h h1 h2 hi
  have hb2 := pd_best h h1 h2 (show p ≤ i + 1 by omega)
  unfold nF
  rw [if_neg]
  · exact hb
  · rintro (e | e)
    · exact hl e
    · unfold later at e
      have := of_decide_eq_true e
      rw [hb, hb2] at this
      unfold limF at this
      split at this <;> split at this <;> omega
def lfx : Nat → Nat := cf (lA fixL)
theorem tok_cost {t : Tok} (h : Tk t) : (t.len = 0 → bdC fixL (cn1 t) ≤ 9) ∧ bdC fixL (cn1 t) ≤ 14 := by
  rcases h with ⟨b, h1, e⟩ | ⟨n, d, h1, h2, h3, h4, e⟩
  · subst e
    rw [show cn1 ⟨0, 0, (b : Int)⟩ = fun s => if s = b then 1 else 0 from funext fun s => cn1_lit b s, bd_pick _ (by omega), fix_at (by omega)]
    unfold mo; rw [if_pos (by omega : b < 265)]
    constructor
    · intro _; split <;> (try split) <;> omega
    · split <;> (try split) <;> omega
  · subst e
    obtain ⟨d1, d2, d3, d4⟩ := dC_is h3 h4
    rw [show cn1 ⟨(n : Int), (d : Int), 0⟩ = fun s => (if s = n + 254 then 1 else 0) + if s = 265 + dC d then 1 else 0 from funext fun s => cn1_dup d s (by omega), bd_add, bd_pick _ (by omega), bd_pick _ (by omega), fix_at (by omega), fix_at (by omega)]
    unfold mo
    rw [if_pos (by omega : n + 254 < 265), if_neg (by omega : ¬ 265 + dC d < 265), if_neg (by omega), if_pos (by omega), if_neg (by omega), if_neg (by omega), show 265 + dC d - 265 = dC d by omega]
    exact ⟨fun z => by simp only [] at z; omega, by omega⟩
/-- the bits of the tokens from place i on, in a fixed block, EOB too -/
theorem pd_tail {u : ByteArray} {p : Nat} (h : Pd u p) (h1 : 1 ≤ p) (h2 : p ≤ 16) {level : Int} (hl : level ≠ 0) : ∀ (f i : Nat), p ≤ i → bdC fixL (cnT (parseF u level f i)) ≤ 14 * ((u.size - i) / 10) + 18 + 9
  | 0, i, _ => by
    rw [parseF, show cnT [] = fun s => if s = 256 then 1 else 0 from rfl, bd_pick _ (by omega), fix_at (by omega)]
    unfold mo; simp <;> omega
  | f + 1, i, hi => by
    rw [parseF]
    split
    · rename_i hlt
      have hn := pd_nF h h1 h2 hi hl
      have ht := tok_cost (tokF_tk u level i)
      rw [show cnT (tokF u level i :: parseF u level f (i + advF u level i)) = fun s => cnT (parseF u level f (i + advF u level i)) s + cn1 (tokF u level i) s from rfl, bd_add]
      have ih := pd_tail h h1 h2 hl f (i + advF u level i) (by have := adv_pos u level i; omega)
      by_cases hz : limF u i < 3
      · rw [if_pos hz] at hn
        obtain ⟨e1, e2⟩ := tok_lit hn
        have h9 := ht.1 (by rw [e1])
        unfold limF at hz
        -- at most two literals are left
        have hsz : u.size - i ≤ 2 := by omega
        rw [e2] at ih ⊢
        by_cases hone : u.size - i = 1
        · rw [parse_nil u level (i + 1) (by omega)] at ih ⊢
          rw [show cnT [] = fun s => if s = 256 then 1 else 0 from rfl, bd_pick _ (by omega), fix_at (by omega)] at *
          unfold mo at *; simp at *; omega
        · have h2e : u.size - i = 2 := by omega
          have hnx : bdC fixL (cnT (parseF u level f (i + 1))) ≤ 9 + 9 := by
            cases f with
            | zero =>
              rw [parseF, show cnT [] = fun s => if s = 256 then 1 else 0 from rfl, bd_pick _ (by omega), fix_at (by omega)]
              unfold mo; simp
            | succ f =>
              have hn2 := pd_nF h h1 h2 (show p ≤ i + 1 by omega) hl
              rw [if_pos (by unfold limF; omega)] at hn2
              obtain ⟨g1, g2⟩ := tok_lit hn2
              have ht2 := (tok_cost (tokF_tk u level (i + 1))).1 (by rw [g1])
              rw [parseF, if_pos (by omega), g2, parse_nil u level (i + 1 + 1) (by omega)]
              rw [show cnT (tokF u level (i + 1) :: []) = fun s => cnT [] s + cn1 (tokF u level (i + 1)) s from rfl, bd_add, show cnT [] = fun s => if s = 256 then 1 else 0 from rfl, bd_pick _ (by omega), fix_at (by omega)]
              unfold mo; simp <;> omega
          omega
      · rw [if_neg hz] at hn
        have hav : advF u level i = limF u i := by unfold advF; rw [if_neg (by omega), hn]
        have h14 := ht.2
        rw [hav] at ih ⊢
        unfold limF at *
        by_cases h10 : 10 ≤ u.size - i
        · rw [show min 10 (u.size - i) = 10 by omega] at ih ⊢
          have : (u.size - i) / 10 = (u.size - (i + 10)) / 10 + 1 := by omega
          omega
        · rw [show min 10 (u.size - i) = u.size - i by omega] at ih ⊢
          rw [parse_nil u level _ (by omega)] at ih ⊢
          rw [show cnT [] = fun s => if s = 256 then 1 else 0 from rfl, bd_pick _ (by omega), fix_at (by omega)] at *
          unfold mo at *; simp at *; omega
    · rw [show cnT [] = fun s => if s = 256 then 1 else 0 from rfl, bd_pick _ (by omega), fix_at (by omega)]
      unfold mo; simp <;> omega
theorem pd_head {u : ByteArray} {p : Nat} (h : Pd u p) (h1 : 1 ≤ p) (h2 : p ≤ 16) {level : Int} (hl : level ≠ 0) : ∀ (f i : Nat), i ≤ p → bdC fixL (cnT (parseF u level f i)) ≤ 9 * (p - i) + 5 + (14 * ((u.size - p) / 10) + 18 + 9)
  | 0, i, _ => by
    rw [parseF, show cnT [] = fun s => if s = 256 then 1 else 0 from rfl, bd_pick _ (by omega), fix_at (by omega)]
    unfold mo; simp <;> omega
  | f + 1, i, hi => by
    by_cases he : i = p
    · have := pd_tail h h1 h2 hl (f + 1) i (by omega)
      rw [he] at this ⊢; omega
    · rw [parseF]
      split
      · rename_i hlt
        have hap := adv_pos u level i
        have ht := tok_cost (tokF_tk u level i)
        rw [show cnT (tokF u level i :: parseF u level f (i + advF u level i)) = fun s => cnT (parseF u level f (i + advF u level i)) s + cn1 (tokF u level i) s from rfl, bd_add]
        have hc : bdC fixL (cn1 (tokF u level i)) ≤ 9 * advF u level i := by
          by_cases hn : nF u level i = 0
          · obtain ⟨e1, e2⟩ := tok_lit hn
            have := ht.1 (by rw [e1]); omega
          · have hnp := nF_pos hn
            have hne : (bestF u i).1 ≠ 0 := by omega
            have := (tok_dup hnp.1 hne).2
            have := best_range hne
            have := ht.2; omega
        by_cases hj : i + advF u level i ≤ p
        · have := pd_head h h1 h2 hl f (i + advF u level i) hj
          omega
        · have h9 := pd_tail h h1 h2 hl f (i + advF u level i) (by omega)
          have h14 := ht.2
          have : (u.size - (i + advF u level i)) / 10 ≤ (u.size - p) / 10 := Nat.div_le_div_right (by omega)
          omega
      · rw [show cnT [] = fun s => if s = 256 then 1 else 0 from rfl, bd_pick _ (by omega), fix_at (by omega)]
        unfold mo; simp <;> omega
theorem pk_work {u : ByteArray} {p : Nat} (h : Pd u p) (h1 : 1 ≤ p) (h2 : p ≤ 16) {level : Int} (hl : level ≠ 0) : (p = 1 → (pkF u level).size ≤ 8 + u.size / 5) ∧ (pkF u level).size ≤ 10 + 2 * p + u.size / 5 := by
  have h3 := pd_head h h1 h2 hl u.size 0 (by omega)
  have h4 := (ct_least u (toks u level)).2
  have h5 := (pk_size (u := u) level).1
  have h6 : cF (toks u level) = 3 + bdC fixL (cnT (parseF u level u.size 0)) := rfl
  have h7 : 10 * ((u.size - p) / 10) ≤ u.size - p := Nat.mul_div_le _ _
  rw [h5]
  constructor
  · intro e; omega
  · omega
end Go.Blk
