import Derived.Test.Qxb6500401aGreatLd
import Derived.Test.Qxb6500401aGreatLt
set_option linter.unusedVariables false
set_option linter.unusedSimpArgs false
namespace Go.Wat
open Go.Chk Go.Trl Go.Eng
def lits (L : List It) : List Int := L.map (·.lit)
theorem lits_len (L : List It) : (lits L).length = L.length := by simp [lits]
theorem lits_at {L : List It} {i : Nat} {x : It} (h : L[i]? = some x) : (lits L)[i]? = some x.lit := by simp [lits, h]
theorem lits_get {L : List It} {i : Nat} {l : Int} (h : (lits L)[i]? = some l) : ∃ x, L[i]? = some x ∧ x.lit = l := by
  unfold lits at h; rw [List.getElem?_map, Option.map_eq_some_iff] at h; exact h
theorem lits_app (L : List It) (x : It) : lits (L ++ [x]) = lits L ++ [x.lit] := by simp [lits]
theorem lits_take (L : List It) (n : Nat) : lits (L.take n) = (lits L).take n := by simp [lits]
theorem mem_idx {ls : List Int} {l : Int} : l ∈ ls ↔ ∃ i : Nat, ls[i]? = some l := List.mem_iff_getElem?
theorem vr_eq {a b : Int} (h : vr a = vr b) : a = b ∨ a = -b := by unfold vr at h; split at h <;> split at h <;> omega
section ti
variable {L : List It} {k c : Nat}
theorem lits_one (h : TI L k c) {i j : Nat} {a b : Int} (hi : (lits L)[i]? = some a) (hj : (lits L)[j]? = some b) (e : a = b ∨ a = -b) : i = j ∧ a = b := by
  obtain ⟨x, h1, e1⟩ := lits_get hi
  obtain ⟨y, h2, e2⟩ := lits_get hj
  have l1 := h.loc h1
  have l2 := h.loc h2
  have ev : vr x.lit = vr y.lit := by rw [e1, e2]; rcases e with e | e; rw [e]; rw [e, vr_neg]
  rw [ev, l2] at l1
  injection l1 with l1
  injection l1 with q1 q2
  exact ⟨q1.symm, by rw [← e1, ← e2, q2]⟩
theorem con_lits (h : TI L k c) : Con (· ∈ lits L) := by
  intro l h1 h2
  obtain ⟨i, hi⟩ := mem_idx.1 h1
  obtain ⟨j, hj⟩ := mem_idx.1 h2
  have := (lits_one h hi hj (.inr (by omega))).2
  obtain ⟨x, hx, ex⟩ := lits_get hi
  have hg := (h.g x (List.mem_of_getElem? hx)).1
  unfold good at hg
  omega
theorem gd_lits (h : TI L k c) {l : Int} (hl : l ∈ lits L) : gd l := by
  obtain ⟨i, hi⟩ := mem_idx.1 hl
  obtain ⟨x, hx, ex⟩ := lits_get hi
  have hg := (h.g x (List.mem_of_getElem? hx)).1
  rw [ex] at hg; exact hg
theorem nodup_lits (h : TI L k c) : (lits L).Nodup := by
  rw [List.Nodup, List.pairwise_iff_getElem]
  intro i j hi hj hij e
  have := (lits_one h (i := i) (j := j) (a := (lits L)[i]) (b := (lits L)[j]) (by simp) (by simp) (.inl e)).1
  omega
theorem val3 {l : Int} (hg : gd l) : (valL L l = 1 ∧ l ∈ lits L) ∨ (valL L l = -1 ∧ -l ∈ lits L) ∨ (valL L l = 0 ∧ l ∉ lits L ∧ -l ∉ lits L) := by
  rw [valL_eq (show good l from hg)]
  cases e : Trl.loc L (vr l) with
  | none =>
    right; right
    have := loc_none.1 e
    refine ⟨rfl, fun hm => ?_, fun hm => ?_⟩
    · obtain ⟨i, hi⟩ := mem_idx.1 hm
      obtain ⟨x, hx, ex⟩ := lits_get hi
      exact this x (List.mem_of_getElem? hx) (by rw [ex])
    · obtain ⟨i, hi⟩ := mem_idx.1 hm
      obtain ⟨x, hx, ex⟩ := lits_get hi
      exact this x (List.mem_of_getElem? hx) (by rw [ex, vr_neg])
  | some p =>
    obtain ⟨i, x⟩ := p
    have hs := loc_some e
    have hm : x.lit ∈ lits L := mem_idx.2 ⟨i, lits_at hs.1⟩
    rcases vr_eq hs.2 with q | q
    · left; simp only []; rw [if_pos q]; exact ⟨rfl, q ▸ hm⟩
    · right; left
      have hg0 := hg.1
      simp only []; rw [if_neg (by omega)]; exact ⟨rfl, q ▸ hm⟩
theorem pla_at (h : TI L k c) {i : Nat} {l : Int} (hi : (lits L)[i]? = some l) : plaV L (vr l) = i ∧ plaV L (vr (-l)) = i := by
  obtain ⟨x, hx, ex⟩ := lits_get hi
  have := h.loc hx
  rw [ex] at this
  rw [vr_neg]
  unfold plaV
  rw [this]; exact ⟨rfl, rfl⟩
end ti
/-- a sound watch a, beside the other watch o -/
def Hold (ls : List Int) (c : Nat) (a o : Int) : Prop := ∀ i : Nat, ls[i]? = some (-a) → c ≤ i ∨ ∃ j, j < i ∧ ls[j]? = some o
theorem Hold.app {ls : List Int} {c : Nat} {a o x : Int} (h : Hold ls c a o) (hc : c ≤ ls.length) : Hold (ls ++ [x]) c a o := fun i hi => by
  rcases Nat.lt_or_ge i ls.length with q | q
  · rw [List.getElem?_append_left q] at hi
    rcases h i hi with z | ⟨j, z1, z2⟩
    · exact .inl z
    · exact .inr ⟨j, z1, by rw [List.getElem?_append_left (by omega)]; exact z2⟩
  · exact .inl (by omega)
theorem Hold.take {ls : List Int} {c n : Nat} {a o : Int} (h : Hold ls c a o) : Hold (ls.take n) (min c n) a o := fun i hi => by
  have hlt : i < n := by
    rcases Nat.lt_or_ge i n with q | q
    · exact q
    · rw [List.getElem?_eq_none (by rw [List.length_take]; omega)] at hi; cases hi
  rw [List.getElem?_take, if_pos hlt] at hi
  rcases h i hi with z | ⟨j, z1, z2⟩
  · exact .inl (by omega)
  · exact .inr ⟨j, z1, by rw [List.getElem?_take, if_pos (by omega)]; exact z2⟩
theorem Hold.mono {ls : List Int} {c c' : Nat} {a o : Int} (h : Hold ls c a o) (hc : c' ≤ c) : Hold ls c' a o := fun i hi => by
  rcases h i hi with z | z
  · exact .inl (by omega)
  · exact .inr z
theorem Hold.up {ls : List Int} {c : Nat} {a o : Int} (h : Hold ls c a o) (hn : ls[c]? ≠ some (-a)) : Hold ls (c + 1) a o := fun i hi => by
  rcases h i hi with z | z
  · rcases Nat.lt_or_ge c i with q | q
    · exact .inl (by omega)
    · have : i = c := by omega
      subst this; exact absurd hi hn
  · exact .inr z
theorem Hold.new {ls : List Int} {c : Nat} {a o : Int} (h : -a ∉ ls) : Hold ls c a o := fun i hi => absurd (mem_idx.2 ⟨i, hi⟩) h
theorem Hold.nil (c : Nat) (a o : Int) : Hold [] c a o := fun i hi => by simp at hi
/-- the literals of a slot are the clause's -/
def Arr (f : Nat → Int) (n : Nat) (c : List Int) : Prop := n = c.length ∧ (∀ j, j < n → f j ∈ c) ∧ (∀ l ∈ c, ∃ j, j < n ∧ f j = l) ∧ (∀ j j', j < n → j' < n → f j = f j' → j = j')
def upI (f : Nat → Int) (v : Nat) (x : Int) : Nat → Int := fun u => if u = v then x else f u
theorem upI_self (f : Nat → Int) (v : Nat) (x : Int) : upI f v x v = x := by simp [upI]
theorem upI_ne {f : Nat → Int} {u v : Nat} {x : Int} (h : u ≠ v) : upI f v x u = f u := by simp [upI, h]
theorem Arr.swap {f : Nat → Int} {n p q : Nat} {c : List Int} (h : Arr f n c) (hp : p < n) (hq : q < n) : Arr (upI (upI f p (f q)) q (f p)) n c := by
  obtain ⟨h0, h1, h2, h3⟩ := h
  have ev : ∀ j, upI (upI f p (f q)) q (f p) j = if j = q then f p else if j = p then f q else f j := fun j => rfl
  refine ⟨h0, fun j hj => ?_, fun l hl => ?_, fun j j' hj hj' e => ?_⟩
  · rw [ev]; split
    · exact h1 p hp
    · split
      · exact h1 q hq
      · exact h1 j hj
  · obtain ⟨j, hj, e⟩ := h2 l hl
    by_cases e1 : j = p
    · exact ⟨q, hq, by rw [ev, if_pos rfl, ← e1]; exact e⟩
    · by_cases e2 : j = q
      · refine ⟨p, hp, ?_⟩
        rw [ev]
        by_cases e3 : p = q
        · rw [if_pos e3, e3, ← e2]; exact e
        · rw [if_neg e3, if_pos rfl, ← e2]; exact e
      · exact ⟨j, hj, by rw [ev, if_neg e2, if_neg e1]; exact e⟩
  · rw [ev, ev] at e
    have g := h3
    by_cases a1 : j = q <;> by_cases a2 : j' = q <;> by_cases b1 : j = p <;> by_cases b2 : j' = p <;> simp only [a1, a2, b1, b2, if_true, if_false] at e <;> first | omega | (have := g _ _ hp hq e; omega) | (have := g _ _ hq hp e; omega) | (have := g _ _ hp hj' e; omega) | (have := g _ _ hj hp e; omega) | (have := g _ _ hq hj' e; omega) | (have := g _ _ hj hq e; omega) | exact g _ _ hj hj' e | (split at e <;> (try split at e) <;> first | omega | (have := g _ _ hp hq e; omega) | (have := g _ _ hq hp e; omega) | (have := g _ _ hp hj' e; omega) | (have := g _ _ hj hp e; omega) | (have := g _ _ hq hj' e; omega) | (have := g _ _ hj hq e; omega) | exact g _ _ hj hj' e)
theorem Arr.ext {f g : Nat → Int} {n : Nat} {c : List Int} (h : Arr f n c) (e : ∀ j, j < n → g j = f j) : Arr g n c :=
  ⟨h.1, fun j hj => by rw [e j hj]; exact h.2.1 j hj, fun l hl => by obtain ⟨j, hj, q⟩ := h.2.2.1 l hl; exact ⟨j, hj, by rw [e j hj]; exact q⟩, fun j j' hj hj' q => h.2.2.2 j j' hj hj' (by rw [← e j hj, ← e j' hj']; exact q)⟩
theorem Arr.of {c : List Int} (h : c.Nodup) {f : Nat → Int} (e : ∀ j, j < c.length → f j = c.getD j 0) : Arr f c.length c := by
  have hget : ∀ j (hj : j < c.length), c.getD j 0 = c[j] := fun j hj => by simp [hj]
  refine ⟨rfl, fun j hj => ?_, fun l hl => ?_, fun j j' hj hj' q => ?_⟩
  · rw [e j hj, hget j hj]; exact List.getElem_mem hj
  · obtain ⟨i, hi, q⟩ := List.getElem_of_mem hl
    exact ⟨i, hi, by rw [e i hi, hget i hi]; exact q⟩
  · rw [e j hj, e j' hj', hget j hj, hget j' hj'] at q
    exact (List.getElem_inj h).1 q
/-- the store's record -/
structure WC where
  lits : Nat → Int
  size : Nat → Nat
  used : Nat
  fresh : Nat
  weak : Nat
  list : Nat → Nat
  vis : Nat
/-- what it shows of one id -/
structure Vw where
  u : Bool
  f : Bool
  k : Bool
  n : Nat
  a : Nat → Int
  l : Nat → Bool
def vw (W : WC) (i : Nat) : Vw := ⟨W.used.testBit i, W.fresh.testBit i, W.weak.testBit i, W.size i, fun j => if j < 12 then W.lits (i * 12 + j) else 0, fun q => if q < 26 then (W.list q).testBit i else false⟩
def cdn (l : Int) : Nat := if 0 < l then 2 * l.natAbs else 2 * l.natAbs + 1
theorem cdn_lt {l : Int} (h : gd l) : cdn l < 26 := by unfold gd at h; unfold cdn; split <;> omega
theorem cdn_inj {a b : Int} (ha : gd a) (hb : gd b) (h : cdn a = cdn b) : a = b := by unfold gd at ha hb; unfold cdn at h; split at h <;> split at h <;> omega
def Vw.sd (v : Vw) : Bool := v.u && !v.f && !v.k
structure Loc (v : Vw) (o : Option (List Int)) (ls : List Int) (c : Nat) : Prop where
  u : v.u = o.isSome
  f : v.f = true → v.u = true
  k : v.k = true → v.u = true
  d : v.f = true → v.k = false
  z : o = none → v.n = 0
  a : ∀ cc, o = some cc → Nrm cc ∧ Arr v.a v.n cc
  s : v.sd = true → 2 ≤ v.n ∧ Hold ls c (v.a 0) (v.a 1) ∧ Hold ls c (v.a 1) (v.a 0)
  l : ∀ q, q < 26 → v.l q = (v.sd && (decide (cdn (v.a 0) = q) || decide (cdn (v.a 1) = q)))
structure WI (W : WC) (cl : Nat → Option (List Int)) (ls : List Int) (c : Nat) : Prop where
  hi : ∀ i, 52 ≤ i → (vw W i).u = false ∧ (vw W i).f = false ∧ (vw W i).k = false ∧ ∀ q, (vw W i).l q = false
  lo : ∀ i, i < 52 → Loc (vw W i) (cl i) ls c
def upO (cl : Nat → Option (List Int)) (id : Nat) (o : Option (List Int)) : Nat → Option (List Int) := fun i => if i = id then o else cl i
theorem upO_self (cl : Nat → Option (List Int)) (id : Nat) (o : Option (List Int)) : upO cl id o id = o := by simp [upO]
theorem upO_ne {cl : Nat → Option (List Int)} {i id : Nat} {o : Option (List Int)} (h : i ≠ id) : upO cl id o i = cl i := by simp [upO, h]
theorem upO_same {cl : Nat → Option (List Int)} {id : Nat} {o : Option (List Int)} (h : cl id = o) : upO cl id o = cl := by
  funext i; unfold upO; split
  · rename_i e; rw [e, h]
  · rfl
theorem WI.set {W W' : WC} {cl : Nat → Option (List Int)} {ls : List Int} {c id : Nat} (h : WI W cl ls c) (hid : id < 52) (hs : ∀ i, i ≠ id → vw W' i = vw W i) {o : Option (List Int)} (hl : Loc (vw W' id) o ls c) : WI W' (upO cl id o) ls c := by
  refine ⟨fun i hi => by rw [hs i (by omega)]; exact h.hi i hi, fun i hi => ?_⟩
  by_cases e : i = id
  · subst e; rw [upO_self]; exact hl
  · rw [hs i e, upO_ne e]; exact h.lo i hi
theorem WI.keep {W W' : WC} {cl : Nat → Option (List Int)} {ls : List Int} {c id : Nat} (h : WI W cl ls c) (hid : id < 52) (hs : ∀ i, i ≠ id → vw W' i = vw W i) (hl : Loc (vw W' id) (cl id) ls c) : WI W' cl ls c := by
  have := h.set hid hs hl
  rw [upO_same rfl] at this; exact this
theorem Loc.ls {v : Vw} {o : Option (List Int)} {ls ls' : List Int} {c c' : Nat} (h : Loc v o ls c) (hh : ∀ a b, Hold ls c a b → Hold ls' c' a b) : Loc v o ls' c' :=
  ⟨h.u, h.f, h.k, h.d, h.z, h.a, fun e => ⟨(h.s e).1, hh _ _ (h.s e).2.1, hh _ _ (h.s e).2.2⟩, h.l⟩
theorem WI.ls {W : WC} {cl : Nat → Option (List Int)} {ls ls' : List Int} {c c' : Nat} (h : WI W cl ls c) (hh : ∀ a b, Hold ls c a b → Hold ls' c' a b) : WI W cl ls' c' :=
  ⟨h.hi, fun i hi => (h.lo i hi).ls hh⟩
theorem WI.vis {W : WC} {cl : Nat → Option (List Int)} {ls : List Int} {c n : Nat} (h : WI W cl ls c) : WI { W with vis := n } cl ls c := ⟨h.hi, h.lo⟩
/-- bits -/
theorem lt52 {x : Nat} (h : ∀ i, 52 ≤ i → x.testBit i = false) : x < 4503599627370496 := Nat.lt_pow_two_of_testBit (n := 52) x (fun i hi => h i hi)
theorem WI.lt {W : WC} {cl : Nat → Option (List Int)} {ls : List Int} {c : Nat} (h : WI W cl ls c) : W.used < 4503599627370496 ∧ W.fresh < 4503599627370496 ∧ W.weak < 4503599627370496 :=
  ⟨lt52 fun i hi => (h.hi i hi).1, lt52 fun i hi => (h.hi i hi).2.1, lt52 fun i hi => (h.hi i hi).2.2.1⟩
theorem WI.llt {W : WC} {cl : Nat → Option (List Int)} {ls : List Int} {c : Nat} (h : WI W cl ls c) {q : Nat} (hq : q < 26) : W.list q < 4503599627370496 :=
  lt52 fun i hi => by have := (h.hi i hi).2.2.2 q; simp only [vw, if_pos hq] at this; exact this
theorem WI.u {W : WC} {cl : Nat → Option (List Int)} {ls : List Int} {c i : Nat} (h : WI W cl ls c) (hi : i < 52) : W.used.testBit i = (cl i).isSome := (h.lo i hi).u
/-- sums -/
def sumN (f : Nat → Nat) : Nat → Nat
  | 0 => 0
  | n + 1 => sumN f n + f n
theorem sumN_le {f g : Nat → Nat} : ∀ n, (∀ i, i < n → f i ≤ g i) → sumN f n ≤ sumN g n
  | 0, _ => Nat.le_refl _
  | n + 1, h => by have := sumN_le n (fun i hi => h i (by omega)); have := h n (by omega); simp only [sumN]; omega
theorem sumN_lt {f g : Nat → Nat} {k : Nat} : ∀ n, (∀ i, i < n → f i ≤ g i) → k < n → f k + 1 ≤ g k → sumN f n + 1 ≤ sumN g n
  | 0, _, hk, _ => by omega
  | n + 1, h, hk, hs => by
    simp only [sumN]
    by_cases e : k = n
    · subst e; have := sumN_le k (fun i hi => h i (by omega)); omega
    · have := sumN_lt n (fun i hi => h i (by omega)) (by omega) hs; have := h n (by omega); omega
theorem sumN_bd {f : Nat → Nat} {b : Nat} : ∀ n, (∀ i, i < n → f i ≤ b) → sumN f n ≤ b * n
  | 0, _ => by simp [sumN]
  | n + 1, h => by have := sumN_bd n (fun i hi => h i (by omega)); have := h n (by omega); simp only [sumN, Nat.mul_succ]; omega
/-- how many of the literals from a to below b deny one of the clause -/
def nc (o : Option (List Int)) (ls : List Int) (a b : Nat) : Nat := match o with
  | none => 0
  | some c => ((List.range' a (b - a)).filter fun i => decide (-(ls.getD i 0) ∈ c)).length
theorem nc_self (o : Option (List Int)) (ls : List Int) (a : Nat) : nc o ls a a = 0 := by unfold nc; split <;> simp
theorem nc_step (o : Option (List Int)) (ls : List Int) {a b : Nat} (h : a ≤ b) : nc o ls a (b + 1) = nc o ls a b + (match o with | none => 0 | some c => if -(ls.getD b 0) ∈ c then 1 else 0) := by
  unfold nc
  cases o with
  | none => rfl
  | some c =>
    simp only []
    rw [show b + 1 - a = (b - a) + 1 by omega, List.range'_concat, List.filter_append, List.length_append, Nat.one_mul, show a + (b - a) = b by omega]
    congr 1
    by_cases e : -(ls.getD b 0) ∈ c
    · simp only [List.filter_cons, decide_eq_true e, if_true, List.filter_nil, List.length_singleton, if_pos e]
    · simp only [List.filter_cons, decide_eq_false e, List.filter_nil, if_neg e]; rfl
theorem nc_mono (o : Option (List Int)) (ls : List Int) {a b : Nat} (h : a ≤ b) : ∀ d, nc o ls a b ≤ nc o ls a (b + d)
  | 0 => Nat.le_refl _
  | d + 1 => by have := nc_mono o ls h d; rw [← Nat.add_assoc, nc_step o ls (by omega)]; omega
theorem nc_le (o : Option (List Int)) (ls : List Int) (a b : Nat) : nc o ls a b ≤ b - a := by
  unfold nc; split
  · omega
  · exact Nat.le_trans (List.length_filter_le _ _) (by simp)
theorem nc_ext {o : Option (List Int)} {ls ls' : List Int} {a b : Nat} (h : ∀ i, a ≤ i → i < b → ls.getD i 0 = ls'.getD i 0) : nc o ls a b = nc o ls' a b := by
  unfold nc; split
  · rfl
  · congr 1
    apply List.filter_congr
    intro i hi
    rw [List.mem_range'_1] at hi
    rw [h i hi.1 (by omega)]
/-- the budget -/
def bud (cl : Nat → Option (List Int)) (due : Nat → Bool) (ls : List Int) (c0 n : Nat) (i : Nat) : Nat := match cl i with
  | none => 0
  | some c => (if due i then 1 else 0) + nc (some c) ls c0 n
end Go.Wat
