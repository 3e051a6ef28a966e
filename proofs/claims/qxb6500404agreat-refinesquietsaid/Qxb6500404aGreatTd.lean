import Derived.Test.Qxb6500404aGreatTc
set_option linter.unusedVariables false
set_option linter.unusedSimpArgs false
namespace Go.Arc
open Go.Bits Go.Huf Go.Blk
open Go.Lz (byt)
open Go.Eng (bAt mkS)
open Go.Proofs.Qxb6500404aGreat (size_app tp_x)
/-! ### what a frame without fault says -/
theorem sp_ok {raw : ByteArray} {dir cell : Nat} (h : (spE raw dir cell).1 = 0) : spE raw dir cell = (0, 0) ∧ (spR raw cell).off + 2 ≤ (spR raw cell).head ∧ (spR raw cell).head + 6 ≤ (spR raw cell).to ∧ (spR raw cell).to ≤ dir ∧ (spR raw cell).head ≤ (spR raw cell).off + 9 ∧ (spR raw cell).size ≤ 256 ∧ (spR raw cell).to ≤ (spR raw cell).head + 6 + 512 := by
  have hh : (spR raw cell).head = (spR raw cell).off + 1 + bAt raw (spR raw cell).off := rfl
  have ht : (spR raw cell).to = (spR raw cell).head + 6 + w2 raw ((spR raw cell).head + 2) := rfl
  unfold spE at h ⊢
  by_cases c1 : dir ≤ (spR raw cell).off
  · rw [if_pos c1] at h; cases h
  rw [if_neg c1] at h ⊢
  by_cases c2 : dir < (spR raw cell).head + 6
  · rw [if_pos c2] at h; cases h
  rw [if_neg c2] at h ⊢
  by_cases c3 : dir < (spR raw cell).to
  · rw [if_pos c3] at h; cases h
  rw [if_neg c3] at h ⊢
  by_cases c4 : bAt raw (spR raw cell).off = 0 ∨ 8 < bAt raw (spR raw cell).off
  · rw [if_pos c4] at h; cases h
  rw [if_neg c4] at h ⊢
  by_cases c5 : 256 < (spR raw cell).size
  · rw [if_pos c5] at h; cases h
  rw [if_neg c5] at h ⊢
  by_cases c6 : 512 < w2 raw ((spR raw cell).head + 2)
  · rw [if_pos c6] at h; cases h
  rw [if_neg c6]
  exact ⟨rfl, by omega, by omega, by omega, by omega, by omega, by omega⟩
theorem tl_ok {raw : ByteArray} (h : (tlF raw).2.2.1 = 0) : (tlF raw).1 ≤ 4 ∧ (tlF raw).2.1 + 2 * (tlF raw).1 + 4 = raw.size ∧ (tlF raw).2.2.2 = 0 := by
  unfold tlF at h ⊢
  by_cases c1 : raw.size < 4
  · rw [if_pos c1] at h; cases h
  rw [if_neg c1] at h ⊢
  by_cases c2 : bAt raw (raw.size - 1) ≠ 90
  · rw [if_pos c2] at h; cases h
  rw [if_neg c2] at h ⊢
  by_cases c3 : 4 < bAt raw (raw.size - 4)
  · rw [if_pos c3] at h; cases h
  rw [if_neg c3] at h ⊢
  by_cases c4 : w2 raw (raw.size - 3) + 2 * bAt raw (raw.size - 4) ≠ raw.size - 4
  · rw [if_pos c4] at h; cases h
  rw [if_neg c4]
  exact ⟨by simp only []; omega, by simp only []; omega, rfl⟩
theorem frE_ok {raw : ByteArray} {dir : Nat} : ∀ (n i : Nat), (frE raw dir n i).1 = 0 ↔ ∀ j, j < n → (spE raw dir (dir + 2 * (i + j))).1 = 0
  | 0, i => by simp [frE]
  | n + 1, i => by
    unfold frE
    by_cases c : (spE raw dir (dir + 2 * i)).1 ≠ 0
    · rw [if_pos c]
      refine ⟨fun z => absurd z c, fun z => z 0 (by omega)⟩
    · rw [if_neg c, frE_ok n (i + 1)]
      refine ⟨fun z j hj => ?_, fun z j hj => ?_⟩
      · rcases j with _ | j
        · exact Classical.not_not.1 c
        · have := z j (by omega)
          rw [show i + (j + 1) = i + 1 + j by omega]; exact this
      · have := z (j + 1) (by omega)
        rw [show i + 1 + j = i + (j + 1) by omega]; exact this
theorem frE_zero {raw : ByteArray} {dir : Nat} : ∀ (n i : Nat), (frE raw dir n i).1 = 0 → frE raw dir n i = (0, 0)
  | 0, i, _ => rfl
  | n + 1, i, h => by
    unfold frE at h ⊢
    by_cases c : (spE raw dir (dir + 2 * i)).1 ≠ 0
    · rw [if_pos c] at h; exact absurd h c
    · rw [if_neg c] at h ⊢; exact frE_zero n (i + 1) h
/-! ### List and Unpack, plainly -/
def cnt (raw : ByteArray) : Nat := (tlF raw).1
def dirr (raw : ByteArray) : Nat := (tlF raw).2.1
def cel (raw : ByteArray) (i : Nat) : Nat := dirr raw + 2 * i
def liE (raw : ByteArray) : Nat × Nat := if 1200 < raw.size then (1, 0) else (frF raw).2
structure Frm (raw : ByteArray) : Prop where
  c : cnt raw ≤ 4
  s : dirr raw + 2 * cnt raw + 4 = raw.size
  z : raw.size ≤ 1200
  sp : ∀ i, i < cnt raw → (spE raw (dirr raw) (cel raw i)).1 = 0
theorem li_ok {raw : ByteArray} (h : (liE raw).1 = 0) : Frm raw ∧ liE raw = (0, 0) := by
  unfold liE at h ⊢
  by_cases c1 : 1200 < raw.size
  · rw [if_pos c1] at h; cases h
  rw [if_neg c1] at h ⊢
  unfold frF at h ⊢
  by_cases c2 : (tlF raw).2.2.1 ≠ 0
  · rw [if_pos c2] at h; exact absurd h c2
  rw [if_neg c2] at h ⊢
  by_cases c3 : (frE raw (tlF raw).2.1 (tlF raw).1 0).1 ≠ 0
  · rw [if_pos c3] at h; exact absurd h c3
  rw [if_neg c3]
  obtain ⟨t1, t2, t3⟩ := tl_ok (Classical.not_not.1 c2)
  have hf := (frE_ok _ _).1 (Classical.not_not.1 c3)
  refine ⟨⟨t1, t2, by omega, fun i hi => ?_⟩, rfl⟩
  have := hf i hi
  rw [Nat.zero_add] at this; exact this
def nmR (raw : ByteArray) (cell : Nat) : ByteArray := raw.extract ((spR raw cell).off + 1) (spR raw cell).head
def txR (raw : ByteArray) (cell : Nat) : ByteArray := raw.extract ((spR raw cell).head + 6) (spR raw cell).to
def enE (raw : ByteArray) (cell : Nat) : Nat := if (ruF (txR raw cell)).e ≠ 0 then (ruF (txR raw cell)).e else if (ruF (txR raw cell)).out.length ≠ (spR raw cell).size then 19 else if smF (mkS (ruF (txR raw cell)).out) ≠ (spR raw cell).sum then 18 else 0
def enV (raw : ByteArray) (cell : Nat) : En := (nmR raw cell, mkS (ruF (txR raw cell)).out)
def inV (raw : ByteArray) (cell : Nat) : ByteArray × Nat × Nat := (nmR raw cell, (spR raw cell).size, (spR raw cell).to - (spR raw cell).head - 6)
def unE (raw : ByteArray) : Nat → Nat → Nat × Nat
  | 0, _ => (0, 0)
  | n + 1, i => if enE raw (cel raw i) ≠ 0 then (enE raw (cel raw i), (spR raw (cel raw i)).off) else unE raw n (i + 1)
def unG (raw : ByteArray) : Nat × Nat := if (liE raw).1 ≠ 0 then liE raw else unE raw (cnt raw) 0
def unL (raw : ByteArray) : List En := (List.range (cnt raw)).map fun i => enV raw (cel raw i)
def liL (raw : ByteArray) : List (ByteArray × Nat × Nat) := (List.range (cnt raw)).map fun i => inV raw (cel raw i)
theorem unL_len (raw : ByteArray) : (unL raw).length = cnt raw := by simp [unL]
theorem liL_len (raw : ByteArray) : (liL raw).length = cnt raw := by simp [liL]
theorem unL_at {raw : ByteArray} {i : Nat} (h : i < cnt raw) : ga (unL raw) i = enV raw (cel raw i) := by
  unfold ga unL; rw [List.getD_eq_getElem?_getD, List.getElem?_map, List.getElem?_range h]; rfl
def gi (L : List (ByteArray × Nat × Nat)) (i : Nat) : ByteArray × Nat × Nat := L.getD i (⟨#[]⟩, 0, 0)
theorem liL_at {raw : ByteArray} {i : Nat} (h : i < cnt raw) : gi (liL raw) i = inV raw (cel raw i) := by
  unfold gi liL; rw [List.getD_eq_getElem?_getD, List.getElem?_map, List.getElem?_range h]; rfl
theorem un_pass {raw : ByteArray} {n i : Nat} (h : enE raw (cel raw i) = 0) : unE raw (n + 1) i = unE raw n (i + 1) := by
  conv => lhs; unfold unE
  rw [if_neg (by omega)]
theorem un_stop {raw : ByteArray} {n i : Nat} (h : enE raw (cel raw i) ≠ 0) : unE raw (n + 1) i = (enE raw (cel raw i), (spR raw (cel raw i)).off) := by
  conv => lhs; unfold unE
  rw [if_pos h]
theorem unE_ok {raw : ByteArray} : ∀ (n i : Nat), (∀ j, j < n → enE raw (cel raw (i + j)) = 0) → unE raw n i = (0, 0)
  | 0, i, _ => rfl
  | n + 1, i, h => by
    have h0 := h 0 (by omega)
    rw [Nat.add_zero] at h0
    rw [un_pass h0]
    exact unE_ok n (i + 1) (fun j hj => by rw [show i + 1 + j = i + (j + 1) by omega]; exact h (j + 1) (by omega))
/-! ### the round trip -/
theorem rt_end {lv : Int} {E : List En} (h : ckF E lv = 0) : liE (arF lv E) = (0, 0) ∧ cnt (arF lv E) = E.length ∧ unG (arF lv E) = (0, 0) ∧ unL (arF lv E) = E ∧ (∀ i, i < E.length → gi (liL (arF lv E)) i = ((ga E i).1, (ga E i).2.size, (pkF (ga E i).2 lv).size)) ∧ (arF lv E).size ≤ dear E := by
  have r := rt_all h
  have hd := ar_dear lv E
  rw [← arL_len] at hd
  have hsz : (arF lv E).size = (arL lv E).length := Go.Eng.mkS_size _
  obtain ⟨raw, er⟩ : ∃ raw, raw = arF lv E := ⟨_, rfl⟩
  rw [← er] at r hsz ⊢
  clear er
  have hc : cnt raw = E.length := by unfold cnt; rw [r.tl]
  have hdr : dirr raw = (rcs lv E).length := by unfold dirr; rw [r.tl]
  have hce : ∀ i, cel raw i = (rcs lv E).length + 2 * i := fun i => by unfold cel; rw [hdr]
  have hfr : frF raw = (E.length, 0, 0) := by
    unfold frF
    rw [r.tl, if_neg (by simp), if_neg]
    simp only [ne_eq, Classical.not_not]
    exact (frE_ok _ _).2 fun j hj => by rw [Nat.zero_add, r.sp j hj]
  have hli : liE raw = (0, 0) := by
    unfold liE; rw [if_neg (by have := r.sz; omega), hfr]
  have hnm : ∀ i, i < E.length → nmR raw (cel raw i) = (ga E i).1 := fun i hi => by
    unfold nmR; rw [hce, r.off i hi, r.head i hi]; exact r.nm i hi
  have htx : ∀ i, i < E.length → txR raw (cel raw i) = pkF (ga E i).2 lv := fun i hi => by
    unfold txR; rw [hce, r.head i hi, r.to i hi]; exact r.tx i hi
  have hen : ∀ i, i < E.length → enE raw (cel raw i) = 0 ∧ enV raw (cel raw i) = ga E i := fun i hi => by
    obtain ⟨s, hs⟩ := pk_run (ckL_at (ckF_ok h).2.2.2 _ (ga_mem hi)).2.2 lv
    refine ⟨?_, ?_⟩
    · unfold enE
      rw [htx i hi, hs, hce, r.size i hi, r.sum i hi]
      simp only []
      rw [if_neg (by simp), if_neg (by rw [Lz.byt_len]; simp), if_neg (by rw [Lz.mkS_byt]; simp)]
    · unfold enV
      rw [htx i hi, hs, hnm i hi]
      simp only []
      rw [Lz.mkS_byt]
  refine ⟨hli, hc, ?_, ?_, ?_, by omega⟩
  · unfold unG; rw [hli, if_neg (by simp)]
    exact unE_ok _ _ fun j hj => by rw [Nat.zero_add]; exact (hen j (by omega)).1
  · apply List.ext_getElem?
    intro j
    by_cases hj : j < E.length
    · unfold unL
      rw [List.getElem?_map, List.getElem?_range (by omega), Option.map_some, (hen j hj).2]
      unfold ga; rw [List.getD_eq_getElem?_getD, List.getElem?_eq_getElem hj]; rfl
    · rw [List.getElem?_eq_none (by rw [unL_len]; omega), List.getElem?_eq_none (by omega)]
  · intro i hi
    rw [liL_at (by omega)]
    unfold inV
    rw [hnm i hi, hce, r.size i hi, r.to i hi, r.head i hi]
    congr 2
    omega
/-! ### an error stays -/
theorem ru_st {a b : ByteArray} (hz : a.size + b.size ≤ 512) (h0 : (ruF a).e ≠ 0) (h4 : (ruF a).e ≠ 4) : (ruF (a ++ b)).e = (ruF a).e := by
  have key : ∀ u : ByteArray, u.size ≤ 512 → ruF u = rnF 4097 ⟨numS u, 8 * u.size, 0⟩ [] := fun u hu => by
    have he : loadE u = 0 := by unfold loadE; rw [if_neg (by omega)]
    unfold ruF loadS
    rw [if_neg (by omega), if_pos he]
  have hs : (a ++ b).size = a.size + b.size := size_app _ _
  rw [key a (by omega)] at h0 h4 ⊢
  rw [key (a ++ b) (by omega)]
  have ok : ∀ u : ByteArray, u.size ≤ 512 → OK ⟨numS u, 8 * u.size, 0⟩ := fun u hu => ⟨numF_lt (bAt_lt _) _, Nat.zero_le _, by simp only []; omega⟩
  exact rnF_st 4097 ⟨tp_x, ok a (by omega), ok _ (by omega), by simp, by simp⟩ [] h0 h4
end Go.Arc
