import Derived.Test.Qxb6500401aGreatLv
set_option linter.unusedVariables false
set_option linter.unusedSimpArgs false
namespace Go.Wat
open Go.Chk Go.Trl Go.Eng
/-- x is unit in its turn -/
def U1 (cl : Nat → Option (List Int)) (L : List It) (x : It) : Prop := ∃ (id : Nat) (c : List Int), id < 52 ∧ x.rea = id ∧ cl id = some c ∧ x.lit ∈ c ∧ x.lit ∉ lits L ∧ -x.lit ∉ lits L ∧ ∀ y ∈ c, y ≠ x.lit → -y ∈ lits L
def Chn (cl : Nat → Option (List Int)) (k : Nat) (L L' : List It) : Prop := L.length ≤ L'.length ∧ L'.take L.length = L ∧ ∀ i x, L.length ≤ i → L'[i]? = some x → x.lev = (k : Int) ∧ U1 cl (L'.take i) x
def One (cl : Nat → Option (List Int)) (k : Nat) (L L' : List It) : Prop := L' = L ∨ ∃ x, L' = L ++ [x] ∧ x.lev = (k : Int) ∧ U1 cl L x
section chn
variable {cl : Nat → Option (List Int)} {k : Nat} {L L' L2 : List It}
theorem Chn.refl : Chn cl k L L := ⟨Nat.le_refl _, List.take_length, fun i x hi hx => by rw [List.getElem?_eq_none hi] at hx; cases hx⟩
theorem Chn.app {x : It} (h : Chn cl k L L') (hl : x.lev = (k : Int)) (hu : U1 cl L' x) : Chn cl k L (L' ++ [x]) := by
  obtain ⟨h1, h2, h3⟩ := h
  refine ⟨by simp; omega, by rw [List.take_append_of_le_length h1]; exact h2, fun i y hi hy => ?_⟩
  rcases Nat.lt_or_ge i L'.length with q | q
  · rw [List.getElem?_append_left q] at hy
    rw [List.take_append_of_le_length (by omega)]; exact h3 i y hi hy
  · rw [List.getElem?_append_right q] at hy
    have hi2 : i - L'.length = 0 := by
      rcases Nat.eq_zero_or_pos (i - L'.length) with z | z
      · exact z
      · rw [List.getElem?_eq_none (by simp; omega)] at hy; cases hy
    rw [hi2] at hy
    simp only [List.getElem?_cons_zero, Option.some.injEq] at hy
    subst hy
    have : i = L'.length := by omega
    subst this
    rw [List.take_append_of_le_length (Nat.le_refl _), List.take_length]; exact ⟨hl, hu⟩
theorem Chn.one (h : Chn cl k L L') (h2 : One cl k L' L2) : Chn cl k L L2 := by
  rcases h2 with e | ⟨x, e, h3, h4⟩
  · rw [e]; exact h
  · rw [e]; exact h.app h3 h4
theorem One.sub (h : One cl k L L') {l : Int} (hl : l ∈ lits L) : l ∈ lits L' := by
  rcases h with e | ⟨x, e, _⟩
  · rw [e]; exact hl
  · rw [e, lits_app]; exact List.mem_append_left _ hl
theorem One.at (h : One cl k L L') {i : Nat} (hi : i < L.length) : (lits L')[i]? = (lits L)[i]? := by
  rcases h with e | ⟨x, e, _⟩
  · rw [e]
  · rw [e, lits_app, List.getElem?_append_left (by rw [lits_len]; exact hi)]
theorem One.len (h : One cl k L L') : L.length ≤ L'.length := by
  rcases h with e | ⟨x, e, _⟩
  · rw [e]; exact Nat.le_refl _
  · rw [e]; simp
theorem One.hold (h : One cl k L L') {c : Nat} (hc : c ≤ L.length) {a b : Int} (hh : Hold (lits L) c a b) : Hold (lits L') c a b := by
  rcases h with e | ⟨x, e, _⟩
  · rw [e]; exact hh
  · rw [e, lits_app]; exact hh.app (by rw [lits_len]; exact hc)
theorem Chn.sub (h : Chn cl k L L') {l : Int} (hl : l ∈ lits L) : l ∈ lits L' := by
  obtain ⟨i, hi⟩ := mem_idx.1 hl
  have hlt : i < L.length := by
    rcases Nat.lt_or_ge i L.length with q | q
    · exact q
    · rw [List.getElem?_eq_none (by rw [lits_len]; exact q)] at hi; cases hi
  rw [← h.2.1, lits_take, List.getElem?_take, if_pos hlt] at hi
  exact mem_idx.2 ⟨i, hi⟩
theorem Chn.at (h : Chn cl k L L') {i : Nat} (hi : i < L.length) : L'[i]? = L[i]? := by
  have h9 : (L'.take L.length)[i]? = L[i]? := by rw [h.2.1]
  rw [List.getElem?_take, if_pos hi] at h9; exact h9
end chn
/-- one true, the rest false -/
def WK (cl : Nat → Option (List Int)) (j : Nat) (ls : List Int) : Prop := ∃ c, cl j = some c ∧ ∃ q ∈ c, q ∈ ls ∧ ∀ y ∈ c, y ≠ q → -y ∈ ls
def TG (cl : Nat → Option (List Int)) (j : Nat) (ls : List Int) : Prop := ∃ c, cl j = some c ∧ ∃ q : Int, ∀ y ∈ c, y ≠ q → -y ∈ ls
def AF (cl : Nat → Option (List Int)) (j : Nat) (ls : List Int) : Prop := ∃ c, cl j = some c ∧ ∀ y ∈ c, -y ∈ ls
theorem WK.mono {cl : Nat → Option (List Int)} {j : Nat} {ls ls' : List Int} (h : WK cl j ls) (hs : ∀ l ∈ ls, l ∈ ls') : WK cl j ls' := by
  obtain ⟨c, h1, q, h2, h3, h4⟩ := h
  exact ⟨c, h1, q, h2, hs _ h3, fun y hy e => hs _ (h4 y hy e)⟩
theorem WK.tg {cl : Nat → Option (List Int)} {j : Nat} {ls : List Int} (h : WK cl j ls) : TG cl j ls := by
  obtain ⟨c, h1, q, h2, h3, h4⟩ := h
  exact ⟨c, h1, q, h4⟩
theorem AF.tg {cl : Nat → Option (List Int)} {j : Nat} {ls : List Int} (h : AF cl j ls) : TG cl j ls := by
  obtain ⟨c, h1, h4⟩ := h
  exact ⟨c, h1, 0, fun y hy _ => h4 y hy⟩
/-- the three places of a clause -/
theorem Loc.weak {v : Vw} {o : Option (List Int)} {ls cc : List Int} {c : Nat} (ho : o = some cc) (hn : Nrm cc) (ha : Arr v.a v.n cc) (hu : v.u = true) (hf : v.f = false) (hk : v.k = true) (hl : ∀ q, q < 26 → v.l q = false) : Loc v o ls c := by
  have hs : v.sd = false := by simp [Vw.sd, hk]
  exact ⟨by rw [hu, ho]; rfl, fun e => hu, fun e => hu, fun e => (by rw [hf] at e; cases e), fun e => (by rw [ho] at e; cases e), fun c2 e => (by rw [ho] at e; injection e with e; subst e; exact ⟨hn, ha⟩), fun e => (by rw [hs] at e; cases e), fun q hq => by rw [hl q hq, hs]; rfl⟩
theorem Loc.fresh {v : Vw} {o : Option (List Int)} {ls cc : List Int} {c : Nat} (ho : o = some cc) (hn : Nrm cc) (ha : Arr v.a v.n cc) (hu : v.u = true) (hf : v.f = true) (hk : v.k = false) (hl : ∀ q, q < 26 → v.l q = false) : Loc v o ls c := by
  have hs : v.sd = false := by simp [Vw.sd, hf]
  exact ⟨by rw [hu, ho]; rfl, fun e => hu, fun e => hu, fun e => hk, fun e => (by rw [ho] at e; cases e), fun c2 e => (by rw [ho] at e; injection e with e; subst e; exact ⟨hn, ha⟩), fun e => (by rw [hs] at e; cases e), fun q hq => by rw [hl q hq, hs]; rfl⟩
theorem Loc.dead {v : Vw} {ls : List Int} {c : Nat} (hu : v.u = false) (hf : v.f = false) (hk : v.k = false) (hz : v.n = 0) (hl : ∀ q, q < 26 → v.l q = false) : Loc v none ls c := by
  have hs : v.sd = false := by simp [Vw.sd, hu]
  exact ⟨by rw [hu]; rfl, fun e => (by rw [hf] at e; cases e), fun e => (by rw [hk] at e; cases e), fun e => hk, fun e => hz, fun c2 e => (by cases e), fun e => (by rw [hs] at e; cases e), fun q hq => by rw [hl q hq, hs]; rfl⟩
theorem Loc.sound {v : Vw} {o : Option (List Int)} {ls cc : List Int} {c : Nat} (ho : o = some cc) (hn : Nrm cc) (ha : Arr v.a v.n cc) (hu : v.u = true) (hf : v.f = false) (hk : v.k = false) (h2 : 2 ≤ v.n) (H0 : Hold ls c (v.a 0) (v.a 1)) (H1 : Hold ls c (v.a 1) (v.a 0)) (hl : ∀ q, q < 26 → v.l q = (decide (cdn (v.a 0) = q) || decide (cdn (v.a 1) = q))) : Loc v o ls c := by
  have hs : v.sd = true := by simp [Vw.sd, hu, hf, hk]
  exact ⟨by rw [hu, ho]; rfl, fun e => hu, fun e => hu, fun e => hk, fun e => (by rw [ho] at e; cases e), fun c2 e => (by rw [ho] at e; injection e with e; subst e; exact ⟨hn, ha⟩), fun e => ⟨h2, H0, H1⟩, fun q hq => by rw [hl q hq, hs]; rfl⟩
/-- the fixpoint -/
theorem Loc.done {v : Vw} {cc ls : List Int} {n : Nat} (h : Loc v (some cc) ls n) (hn : ls.length ≤ n) (hs : v.sd = true) : Done (· ∈ ls) cc := by
  obtain ⟨h2, H0, H1⟩ := h.s hs
  obtain ⟨_, ha⟩ := h.a cc rfl
  have m0 := ha.2.1 0 (by omega)
  have m1 := ha.2.1 1 (by omega)
  have hne : v.a 0 ≠ v.a 1 := fun e => by have := ha.2.2.2 0 1 (by omega) (by omega) e; omega
  have key : ∀ a o, o ∈ cc → Hold ls n a o → -a ∈ ls → ∃ l ∈ cc, l ∈ ls := fun a o ho H hm => by
    obtain ⟨i, hi⟩ := mem_idx.1 hm
    rcases H i hi with z | ⟨j, _, z⟩
    · rw [List.getElem?_eq_none (by omega)] at hi; cases hi
    · exact ⟨o, ho, mem_idx.2 ⟨j, z⟩⟩
  by_cases e0 : -(v.a 0) ∈ ls
  · exact .inl (key _ _ m1 H0 e0)
  · by_cases e1 : -(v.a 1) ∈ ls
    · exact .inl (key _ _ m0 H1 e1)
    · exact .inr ⟨_, m0, _, m1, hne, e0, e1⟩
/-- a watch that p does not touch -/
theorem Loc.up {v : Vw} {o : Option (List Int)} {ls : List Int} {c : Nat} {p : Int} (h : Loc v o ls c) (hp : ls[c]? = some p) (hg : gd p) (hq : v.l (cdn (-p)) = false) : Loc v o ls (c + 1) := by
  refine ⟨h.u, h.f, h.k, h.d, h.z, h.a, fun e => ?_, h.l⟩
  obtain ⟨h2, H0, H1⟩ := h.s e
  have hgm : gd (-p) := by unfold gd at hg ⊢; omega
  have hl := h.l _ (cdn_lt hgm)
  rw [hq, e] at hl
  have hl2 : ¬ cdn (v.a 0) = cdn (-p) ∧ ¬ cdn (v.a 1) = cdn (-p) := by simpa using hl.symm
  refine ⟨h2, H0.up fun e2 => ?_, H1.up fun e2 => ?_⟩
  · rw [hp] at e2; injection e2 with e2; exact hl2.1 (by rw [e2]; simp)
  · rw [hp] at e2; injection e2 with e2; exact hl2.2 (by rw [e2]; simp)
/-- which watch it is -/
theorem Loc.hit {v : Vw} {cc ls : List Int} {c : Nat} {p : Int} (h : Loc v (some cc) ls c) (hg : gd p) (hq : v.l (cdn (-p)) = true) : v.sd = true ∧ 2 ≤ v.n ∧ (v.a 0 = -p ∨ v.a 1 = -p) := by
  have hgm : gd (-p) := by unfold gd at hg ⊢; omega
  have hl := h.l _ (cdn_lt hgm)
  rw [hq] at hl
  have hs : v.sd = true := by cases e : v.sd with | true => rfl | false => rw [e] at hl; simp at hl
  obtain ⟨h2, _, _⟩ := h.s hs
  obtain ⟨hn, ha⟩ := h.a cc rfl
  refine ⟨hs, h2, ?_⟩
  rw [hs] at hl
  simp at hl
  rcases hl with e | e
  · exact .inl (cdn_inj (hn.1 _ (ha.2.1 0 (by omega))) hgm e)
  · exact .inr (cdn_inj (hn.1 _ (ha.2.1 1 (by omega))) hgm e)
/-- holds behind a turn of p -/
theorem Hold.past {ls : List Int} {c : Nat} {q x p : Int} (h : Hold ls c q (-p)) (hm : -p ∉ ls) (hp : ls[c]? = some p) (hne : q ≠ -p) : Hold ls (c + 1) q x := fun i hi => by
  rcases h i hi with z | ⟨j, _, z⟩
  · rcases Nat.lt_or_ge c i with w | w
    · exact .inl (by omega)
    · have : i = c := by omega
      subst this
      rw [hp] at hi; injection hi with hi
      exact absurd (by omega) hne
  · exact absurd (mem_idx.2 ⟨j, z⟩) hm
/-- sums of visits -/
def visA (W : WC) (i : Nat) (j : Nat) : Nat := if j < i ∧ (W.fresh.testBit j || W.weak.testBit j) = true then 1 else 0
def visB (b : Nat → Nat) (cl : Nat → Option (List Int)) (x : Int) (i : Nat) (j : Nat) : Nat := b j + (match cl j with | none => 0 | some c => if j < i ∧ x ∈ c then 1 else 0)
theorem visA_skip {W : WC} {i : Nat} (h : (W.fresh.testBit i || W.weak.testBit i) = false) (j : Nat) : visA W (i + 1) j = visA W i j := by
  unfold visA
  by_cases e : j = i
  · subst e; rw [h]; simp
  · by_cases e2 : j < i
    · simp only [e2, show j < i + 1 by omega]
    · simp only [e2, show ¬ j < i + 1 by omega]
theorem visA_mono (W : WC) (i j : Nat) : visA W i j ≤ visA W (i + 1) j := by
  unfold visA
  by_cases e : j < i ∧ (W.fresh.testBit j || W.weak.testBit j) = true
  · rw [if_pos e, if_pos ⟨by omega, e.2⟩]; exact Nat.le_refl _
  · rw [if_neg e]; exact Nat.zero_le _
theorem visA_one {W : WC} {i : Nat} (h : (W.fresh.testBit i || W.weak.testBit i) = true) : visA W i i + 1 ≤ visA W (i + 1) i := by
  unfold visA; rw [if_neg (by omega), if_pos ⟨by omega, h⟩]; exact Nat.le_refl _
theorem visA_le (W : WC) (i j : Nat) : visA W i j ≤ if (W.fresh.testBit j || W.weak.testBit j) = true then 1 else 0 := by
  unfold visA; split
  · rename_i e; rw [if_pos e.2]; exact Nat.le_refl _
  · exact Nat.zero_le _
theorem visB_mono (b : Nat → Nat) (cl : Nat → Option (List Int)) (x : Int) (i j : Nat) : visB b cl x i j ≤ visB b cl x (i + 1) j := by
  unfold visB; split
  · omega
  · rename_i c _
    by_cases e : j < i ∧ x ∈ c
    · rw [if_pos e, if_pos ⟨by omega, e.2⟩]; exact Nat.le_refl _
    · rw [if_neg e]; omega
theorem visB_one {b : Nat → Nat} {cl : Nat → Option (List Int)} {x : Int} {i : Nat} {c : List Int} (hc : cl i = some c) (h : x ∈ c) : visB b cl x i i + 1 ≤ visB b cl x (i + 1) i := by
  unfold visB; simp only [hc]; rw [if_neg (by omega), if_pos ⟨by omega, h⟩]; omega
theorem visB_zero (b : Nat → Nat) (cl : Nat → Option (List Int)) (x : Int) (j : Nat) : visB b cl x 0 j = b j := by
  unfold visB; split
  · rfl
  · rw [if_neg (by omega)]; rfl
theorem visB_nc {d : Nat → Nat} {cl : Nat → Option (List Int)} {ls : List Int} {c0 c i j : Nat} (h : c0 ≤ c) : visB (fun j => d j + nc (cl j) ls c0 c) cl (-(ls.getD c 0)) i j ≤ d j + nc (cl j) ls c0 (c + 1) := by
  unfold visB
  simp only []
  rw [nc_step _ _ h]
  generalize hn : nc (cl j) ls c0 c = n
  clear hn
  cases cl j with
  | none => simp
  | some cc =>
    simp only []
    by_cases e : -(ls.getD c 0) ∈ cc
    · rw [if_pos e]; split <;> omega
    · rw [if_neg e, if_neg (fun z => e z.2)]; omega
/-- what api.State answers -/
def StR (c on : List Int) (s u : Int) : Prop := (s = 1 ∧ u = 0 ∧ ∃ y ∈ c, y ∈ on) ∨ (s = -1 ∧ u = 0 ∧ ∀ y ∈ c, -y ∈ on) ∨ (s = 0 ∧ u ∈ c ∧ u ∉ on ∧ -u ∉ on ∧ ∀ y ∈ c, y ≠ u → -y ∈ on) ∨ (s = 2 ∧ u = 0 ∧ ∃ x ∈ c, ∃ y ∈ c, x ≠ y ∧ -x ∉ on ∧ -y ∉ on)
theorem StR.unit {c on : List Int} {s u l : Int} (h : StR c on s u) (hc : Con (· ∈ on)) (hl : l ∈ c) (h1 : l ∉ on) (h2 : -l ∉ on) (h3 : ∀ y ∈ c, y ≠ l → -y ∈ on) : s = 0 ∧ u = l := by
  rcases h with ⟨_, _, y, hy, ho⟩ | ⟨_, _, ha⟩ | ⟨e, hu, _, hn, _⟩ | ⟨_, _, x, hx, y, hy, hne, h4, h5⟩
  · by_cases e : y = l
    · exact absurd (e ▸ ho) h1
    · exact absurd (h3 y hy e) (hc y ho)
  · exact absurd (ha l hl) h2
  · refine ⟨e, ?_⟩
    by_cases e2 : u = l
    · exact e2
    · exact absurd (h3 u hu e2) hn
  · by_cases e : x = l
    · exact absurd (h3 y hy (fun z => hne (by rw [e, z]))) h5
    · exact absurd (h3 x hx e) h4
theorem StR.bad {c on : List Int} {s u : Int} (h : StR c on s u) (hc : Con (· ∈ on)) (ha : ∀ y ∈ c, -y ∈ on) : s = -1 ∧ u = 0 := by
  rcases h with ⟨_, _, y, hy, ho⟩ | ⟨e, e2, _⟩ | ⟨_, hu, _, hn, _⟩ | ⟨_, _, x, hx, y, hy, _, h4, _⟩
  · exact absurd (ha y hy) (hc y ho)
  · exact ⟨e, e2⟩
  · exact absurd (ha u hu) hn
  · exact absurd (ha x hx) h4
theorem StR.fin {c on : List Int} {s u : Int} (h : StR c on s u) (hc : Con (· ∈ on)) (hd : Done (· ∈ on) c) : 0 < s := by
  rcases h with ⟨e, _⟩ | ⟨_, _, ha⟩ | ⟨_, hu, h1, h2, h3⟩ | ⟨e, _⟩
  · omega
  · rcases hd with ⟨l, hl, ho⟩ | ⟨x, hx, y, hy, _, h4, _⟩
    · exact absurd (ha l hl) (hc l ho)
    · exact absurd (ha x hx) h4
  · rcases hd with ⟨l, hl, ho⟩ | ⟨x, hx, y, hy, hne, h4, h5⟩
    · by_cases e : l = u
      · exact absurd (e ▸ ho) h1
      · exact absurd (h3 l hl e) (hc l ho)
    · by_cases e : x = u
      · exact absurd (h3 y hy (fun z => hne (by rw [e, z]))) h5
      · exact absurd (h3 x hx e) h4
  · omega
theorem lits_take_succ {L : List It} {i : Nat} {x : It} (h : L[i]? = some x) {l : Int} : l ∈ lits (L.take (i + 1)) ↔ l ∈ lits (L.take i) ∨ l = x.lit := by
  have : L.take (i + 1) = L.take i ++ [x] := by rw [List.take_add_one, h]; rfl
  rw [this, lits_app]; simp
theorem Chn.snd {cl : Nat → Option (List Int)} {k : Nat} {L L' : List It} (h : Chn cl k L L') {R : List (List Int)} (hR : ∀ id c, id < 52 → cl id = some c → c ∈ R) : ∀ d, L.length + d ≤ L'.length → Snd R (· ∈ lits L) (· ∈ lits (L'.take (L.length + d)))
  | 0, _ => by rw [Nat.add_zero, h.2.1]; exact snd_refl _ _
  | d + 1, hd => by
    have ih := Chn.snd h hR d (by omega)
    obtain ⟨x, hx⟩ : ∃ x, L'[L.length + d]? = some x := ⟨L'[L.length + d], List.getElem?_eq_getElem (by omega)⟩
    obtain ⟨_, id, c, h1, _, h2, h3, _, _, h4⟩ := h.2.2 (L.length + d) x (by omega) hx
    have := snd_unit ih (hR id c h1 h2) h3 h4
    intro S g1 g2 g3 l hl
    exact this S g1 g2 g3 l ((lits_take_succ hx).1 hl)
theorem Chn.snd' {cl : Nat → Option (List Int)} {k : Nat} {L L' : List It} (h : Chn cl k L L') {R : List (List Int)} (hR : ∀ id c, id < 52 → cl id = some c → c ∈ R) : Snd R (· ∈ lits L) (· ∈ lits L') := by
  have := h.snd hR (L'.length - L.length) (by have := h.1; omega)
  rw [show L.length + (L'.length - L.length) = L'.length by have := h.1; omega, List.take_length] at this
  exact this
/-- two lists of the same -/
theorem same_len {a b : List Int} (ha : a.Nodup) (hb : b.Nodup) (h : ∀ x, x ∈ a ↔ x ∈ b) : a.length = b.length :=
  (List.perm_ext_iff_of_nodup ha hb |>.2 h).length_eq
/-- what is not false -/
def slk (c on : List Int) : Nat := (c.filter fun y => decide (-y ∉ on)).length
theorem slk_tg {c on : List Int} {q : Int} (hn : c.Nodup) (h : ∀ y ∈ c, y ≠ q → -y ∈ on) : slk c on < 2 := by
  unfold slk
  have hsub : ∀ y ∈ c.filter (fun y => decide (-y ∉ on)), y = q := fun y hy => by
    rw [List.mem_filter] at hy
    by_cases e : y = q
    · exact e
    · exact absurd (h y hy.1 e) (by simpa using hy.2)
  have hnd : (c.filter fun y => decide (-y ∉ on)).Nodup := hn.filter _
  generalize c.filter (fun y => decide (-y ∉ on)) = f at hsub hnd
  match f, hsub, hnd with
  | [], _, _ => simp
  | [_], _, _ => simp
  | x :: y :: r, hsub, hnd =>
    have e1 := hsub x (by simp)
    have e2 := hsub y (by simp)
    rw [e1, e2] at hnd
    simp at hnd
/-- the ids -/
def idsF (cl : Nat → Option (List Int)) (n : Nat) : List Int := ((List.range n).filter (fun (i : Nat) => (cl i).isSome)).map (fun (i : Nat) => (i : Int))
theorem idsF_succ (cl : Nat → Option (List Int)) (n : Nat) : idsF cl (n + 1) = idsF cl n ++ if (cl n).isSome then [(n : Int)] else [] := by
  unfold idsF; rw [List.range_succ, List.filter_append, List.map_append]
  congr 1
  by_cases e : (cl n).isSome = true
  · simp [e]
  · simp [e]
theorem idsF_len (cl : Nat → Option (List Int)) (n : Nat) : (idsF cl n).length ≤ n := by
  unfold idsF; rw [List.length_map]; exact Nat.le_trans (List.length_filter_le _ _) (by simp)
theorem mem_idsF {cl : Nat → Option (List Int)} {n : Nat} {x : Int} : x ∈ idsF cl n ↔ ∃ i : Nat, x = i ∧ i < n ∧ (cl i).isSome = true := by
  unfold idsF; rw [List.mem_map]
  constructor
  · rintro ⟨i, hi, rfl⟩; rw [List.mem_filter] at hi; exact ⟨i, rfl, List.mem_range.1 hi.1, hi.2⟩
  · rintro ⟨i, rfl, h1, h2⟩; exact ⟨i, List.mem_filter.2 ⟨List.mem_range.2 h1, h2⟩, rfl⟩
theorem idsF_ext {cl cl' : Nat → Option (List Int)} : ∀ n, (∀ i, i < n → (cl i).isSome = (cl' i).isSome) → idsF cl n = idsF cl' n
  | 0, _ => rfl
  | n + 1, h => by rw [idsF_succ, idsF_succ, idsF_ext n (fun i hi => h i (by omega)), h n (by omega)]
theorem idsF_up {cl : Nat → Option (List Int)} {k : Nat} {c : List Int} (hk : cl k = none) : ∀ n, (idsF (upO cl k (some c)) n).length = (idsF cl n).length + if k < n then 1 else 0
  | 0 => by simp [idsF]
  | n + 1 => by
    rw [idsF_succ, idsF_succ, List.length_append, List.length_append, idsF_up hk n]
    by_cases e : n = k
    · subst e; rw [upO_self, hk]; simp
    · rw [upO_ne e]
      by_cases e2 : k < n
      · have : k < n + 1 := by omega
        simp only [e2, this, if_true]; omega
      · have : ¬ k < n + 1 := by omega
        simp only [e2, this, if_false]; omega
theorem idsF_dn {cl : Nat → Option (List Int)} {k : Nat} {c : List Int} (hk : cl k = some c) (n : Nat) : (idsF cl n).length = (idsF (upO cl k none) n).length + if k < n then 1 else 0 := by
  have h9 := idsF_up (cl := upO cl k none) (k := k) (c := c) (upO_self _ _ _) n
  have : upO (upO cl k none) k (some c) = cl := by
    funext i; unfold upO; split
    · rename_i e; rw [e, hk]
    · rfl
  rw [this] at h9; exact h9
/-- a clause swept out by variables -/
def pf (c : List Int) (v : Nat) : List Int := c.filter fun y => decide (y.natAbs < v)
theorem pf_none {c : List Int} {v : Nat} (h1 : (v : Int) ∉ c) (h2 : -(v : Int) ∉ c) : pf c (v + 1) = pf c v := by
  unfold pf; apply List.filter_congr; intro y hy
  have : y.natAbs ≠ v := fun e => by
    rcases Int.natAbs_eq y with q | q
    · rw [e] at q; exact h1 (q ▸ hy)
    · rw [e] at q; exact h2 (q ▸ hy)
  by_cases e : y.natAbs < v
  · simp [e]; omega
  · simp [e]; omega
theorem pf_one : ∀ {c : List Int} {v : Nat} {x : Int}, c.Pairwise (fun a b => a.natAbs < b.natAbs) → x ∈ c → x.natAbs = v → pf c (v + 1) = pf c v ++ [x]
  | [], v, x, _, hx, _ => by cases hx
  | y :: r, v, x, hp, hx, e => by
    rw [List.pairwise_cons] at hp
    rcases List.mem_cons.1 hx with q | q
    · subst q
      have hr : ∀ n, n ≤ v + 1 → pf r n = [] := fun n hn => by
        unfold pf; rw [List.filter_eq_nil_iff]; intro z hz; have := hp.1 z hz; simp; omega
      have h1 := hr (v + 1) (by omega)
      have h2 := hr v (by omega)
      unfold pf at h1 h2 ⊢
      rw [List.filter_cons, List.filter_cons, if_pos (by simp; omega), if_neg (by simp; omega), h1, h2]; rfl
    · have hlt := hp.1 x q
      have ih := pf_one hp.2 q e
      unfold pf at ih ⊢
      rw [List.filter_cons, List.filter_cons, if_pos (by simp; omega), if_pos (by simp; omega), ih]; rfl
theorem pf_zero {c : List Int} (h : ∀ l ∈ c, gd l) : pf c 1 = [] := by
  unfold pf; rw [List.filter_eq_nil_iff]; intro y hy; have := h y hy; unfold gd at this; simp; omega
theorem pf_all {c : List Int} (h : ∀ l ∈ c, gd l) : pf c 13 = c := by
  unfold pf; rw [List.filter_eq_self]; intro y hy; have := h y hy; unfold gd at this; simp; omega
theorem pf_len (c : List Int) (v : Nat) : (pf c v).length ≤ c.length := List.length_filter_le _ _
theorem pf_lt {c : List Int} {v : Nat} {x : Int} (hp : c.Pairwise (fun a b => a.natAbs < b.natAbs)) (hx : x ∈ c) (e : x.natAbs = v) : (pf c v).length < c.length := by
  have := pf_len c (v + 1); rw [pf_one hp hx e, List.length_append] at this; simp at this; omega
theorem getD_app (l : List Int) (x : Int) (j : Nat) : (l ++ [x]).getD j 0 = if j = l.length then x else l.getD j 0 := by
  by_cases e : j = l.length
  · subst e; simp
  · rw [if_neg e]
    rcases Nat.lt_or_ge j l.length with q | q
    · simp [List.getElem?_append_left q]
    · simp [List.getElem?_eq_none q, List.getElem?_eq_none (show (l ++ [x]).length ≤ j by simp; omega)]
end Go.Wat
