import Derived.Test.Qxb6500401aGreatCk
set_option linter.unusedVariables false
set_option linter.unusedSimpArgs false
namespace Go.Proofs.Qxb6500401aGreat.ChkW
open Go.Eng Go.Cnf Go.Chk

/-- a row of rows of numbers: all its blocks lie from lo to below hi -/
def LV (lo hi : Nat) (h : Heap) (a : Option Addr) (cap : Nat) (L : List (List Int)) : Prop := ∃ vs, OwnR lo h a L.length cap vs 49 1 ∧ (∀ z, blkA a = some z → z < hi) ∧ hi ≤ h.size ∧ ∀ i, i < L.length → ∃ ai ci, vs[i]? = some (.slice ai (L.getD i []).length ci) ∧ IL h ai ci (L.getD i []) ∧ ∀ z, blkA ai = some z → lo ≤ z ∧ z < hi ∧ blkA a ≠ some z
theorem LV.nil (lo hi : Nat) (h : Heap) (hh : hi ≤ h.size) : LV lo hi h none 0 [] := ⟨[], OwnR.nil _ _ _ _, by simp [blkA], hh, by simp⟩
theorem LV.ext {lo hi : Nat} {h h' : Heap} {a : Option Addr} {cap : Nat} {L : List (List Int)} {S : Nat → Prop} (v : LV lo hi h a cap L) (he : Ext S h h') (hs : ∀ z, lo ≤ z → z < hi → ¬ S z) : LV lo hi h' a cap L := by
  obtain ⟨vs, h1, h2, h3, h4⟩ := v
  refine ⟨vs, h1.ext he (fun z e => hs z (OwnR.blk2 h1 (by rw [e]; rfl)).1 (h2 z (by rw [e]; rfl))), h2, Nat.le_trans h3 he.1, fun i hi => ?_⟩
  obtain ⟨ai, ci, g1, g2, g3⟩ := h4 i hi
  exact ⟨ai, ci, g1, g2.ext he (fun z e => hs z (g3 z e).1 (g3 z e).2.1), g3⟩
theorem LV.wid {lo hi lo' hi' : Nat} {h : Heap} {a : Option Addr} {cap : Nat} {L : List (List Int)} (v : LV lo hi h a cap L) (h1 : lo' ≤ lo) (h2 : hi ≤ hi') (h3 : hi' ≤ h.size) : LV lo' hi' h a cap L := by
  obtain ⟨vs, g1, g2, g3, g4⟩ := v
  refine ⟨vs, ?_, fun z e => Nat.lt_of_lt_of_le (g2 z e) h2, h3, fun i hi => ?_⟩
  · rcases g1 with x | ⟨b, cs, x1, x2, x3⟩
    · exact .inl x
    · exact .inr ⟨b, cs, x1, by omega, x3⟩
  · obtain ⟨ai, ci, k1, k2, k3⟩ := g4 i hi
    exact ⟨ai, ci, k1, k2, fun z e => by have := k3 z e; exact ⟨by omega, by omega, this.2.2⟩⟩
theorem LV.get {lo hi : Nat} {h : Heap} {a : Option Addr} {cap : Nat} {L : List (List Int)} (v : LV lo hi h a cap L) (hl : 0 < L.length) : ∃ bb, a = some ⟨bb, 0, none⟩ ∧ lo ≤ bb ∧ bb < hi ∧ ∀ i, i < L.length → ∃ ai ci, cellH h ⟨bb, i, none⟩ = some (.slice ai (L.getD i []).length ci) ∧ IL h ai ci (L.getD i []) ∧ ∀ z, blkA ai = some z → lo ≤ z ∧ z < hi ∧ bb ≠ z := by
  obtain ⟨vs, h1, h2, h3, h4⟩ := v
  have hlen := h1.len
  obtain ⟨bb, e, g1, g2, g3, g4⟩ := OwnR.some h1 hl
  refine ⟨bb, e, g1, h2 bb (by rw [e]; rfl), fun i hi => ?_⟩
  obtain ⟨ai, ci, k1, k2, k3⟩ := h4 i hi
  refine ⟨ai, ci, by rw [g3 i (by omega)]; exact k1, k2, fun z ez => ?_⟩
  have := k3 z ez
  exact ⟨this.1, this.2.1, fun x => this.2.2 (by rw [e, x]; rfl)⟩
theorem LV.own {lo hi : Nat} {h : Heap} {a : Option Addr} {cap : Nat} {L : List (List Int)} (v : LV lo hi h a cap L) : ∃ vs, OwnR lo h a L.length cap vs 49 1 := by obtain ⟨vs, h1, _⟩ := v; exact ⟨vs, h1⟩
theorem LV.le {lo hi : Nat} {h : Heap} {a : Option Addr} {cap : Nat} {L : List (List Int)} (v : LV lo hi h a cap L) : hi ≤ h.size := by obtain ⟨vs, h1, h2, h3, _⟩ := v; exact h3
theorem LV.len {lo hi : Nat} {h : Heap} {a : Option Addr} {cap : Nat} {L : List (List Int)} (v : LV lo hi h a cap L) : L.length ≤ cap := by obtain ⟨vs, h1, _⟩ := v; exact h1.len.2
/-- one row more: the new row's own cells lie in h -/
theorem LV.snoc {lo hi : Nat} {h h' : Heap} {a a' : Option Addr} {cap cap' : Nat} {L : List (List Int)} {vs : List Value} {c : List Int} {ac : Option Addr} {cc : Nat}
    (v : LV lo hi h a cap L) (hvs : OwnR lo h a L.length cap vs 49 1) (ho : OwnR lo h' a' (L.length + 1) cap' (vs ++ [.slice ac c.length cc]) 49 1) (he : Ext (fun z => blkA a = some z) h h') (hb : ∀ z, blkA a' = some z → blkA a = some z ∨ h.size ≤ z)
    (hc : IL h ac cc c) (hcl : ∀ z, blkA ac = some z → lo ≤ z ∧ blkA a ≠ some z) : LV lo h'.size h' a' cap' (L ++ [c]) := by
  obtain ⟨vs2, h1, h2, h3, h4⟩ := v
  have hL := h1.len; have hL2 := hvs.len
  have hlt : ∀ z, blkA a' = some z → z < h'.size := fun z e => (OwnR.blk2 ho e).2
  refine ⟨_, by rw [List.length_append]; exact ho, hlt, Nat.le_refl _, fun i hi => ?_⟩
  rcases Nat.lt_or_ge i L.length with hlt2 | hge
  · obtain ⟨ai, ci, k1, k2, k3⟩ := h4 i hlt2
    have e1 : (L ++ [c]).getD i [] = L.getD i [] := by simp [List.getD_eq_getElem?_getD, List.getElem?_append, hlt2]
    rw [e1]
    have e2 : vs[i]? = vs2[i]? := by
      obtain ⟨b1, q1, _, _, q2, _⟩ := OwnR.some hvs (by omega)
      obtain ⟨b2, q3, _, _, q4, _⟩ := OwnR.some h1 (by omega)
      have : b1 = b2 := by rw [q1] at q3; injection q3 with q3; injection q3
      subst this
      rw [← q2 i (by omega), ← q4 i (by omega)]
    refine ⟨ai, ci, ?_, k2.ext he (fun z e x => (k3 z e).2.2 x), fun z e => ⟨(k3 z e).1, by have := k2.lt e; have := he.1; omega, fun x => ?_⟩⟩
    · rw [List.getElem?_append_left (by omega), e2]; exact k1
    · rcases hb z x with y | y
      · exact (k3 z e).2.2 y
      · have := k2.lt e; omega
  · have hi2 : i = L.length := by simp at hi; omega
    subst hi2
    have e1 : (L ++ [c]).getD L.length [] = c := by simp [List.getD_eq_getElem?_getD]
    rw [e1]
    refine ⟨ac, cc, ?_, hc.ext he (fun z e x => (hcl z e).2 x), fun z e => ⟨(hcl z e).1, by have := hc.lt e; have := he.1; omega, fun x => ?_⟩⟩
    · rw [List.getElem?_append_right (by omega)]; simp [show L.length - vs.length = 0 by omega]
    · rcases hb z x with y | y
      · exact (hcl z e).2 y
      · have := hc.lt e; omega
/-- a row of rows with their marks -/
def RV (lo hi : Nat) (h : Heap) (a : Option Addr) (cap : Nat) (L : List Rw) : Prop := ∃ vs, OwnR lo h a L.length cap vs 135 2 ∧ (∀ z, blkA a = some z → z < hi) ∧ hi ≤ h.size ∧ ∀ i, i < L.length → vs[i * 2]? = some (.bool (L.getD i (false, [])).1) ∧ ∃ ai ci, vs[i * 2 + 1]? = some (.slice ai (L.getD i (false, [])).2.length ci) ∧ IL h ai ci (L.getD i (false, [])).2 ∧ ∀ z, blkA ai = some z → lo ≤ z ∧ z < hi ∧ blkA a ≠ some z
theorem RV.nil (lo hi : Nat) (h : Heap) (hh : hi ≤ h.size) : RV lo hi h none 0 [] := ⟨[], OwnR.nil _ _ _ _, by simp [blkA], hh, by simp⟩
theorem RV.ext {lo hi : Nat} {h h' : Heap} {a : Option Addr} {cap : Nat} {L : List Rw} {S : Nat → Prop} (v : RV lo hi h a cap L) (he : Ext S h h') (hs : ∀ z, lo ≤ z → z < hi → ¬ S z) : RV lo hi h' a cap L := by
  obtain ⟨vs, h1, h2, h3, h4⟩ := v
  refine ⟨vs, h1.ext he (fun z e => hs z (OwnR.blk2 h1 (by rw [e]; rfl)).1 (h2 z (by rw [e]; rfl))), h2, Nat.le_trans h3 he.1, fun i hi => ⟨(h4 i hi).1, ?_⟩⟩
  obtain ⟨ai, ci, g1, g2, g3⟩ := (h4 i hi).2
  exact ⟨ai, ci, g1, g2.ext he (fun z e => hs z (g3 z e).1 (g3 z e).2.1), g3⟩
theorem RV.get {lo hi : Nat} {h : Heap} {a : Option Addr} {cap : Nat} {L : List Rw} (v : RV lo hi h a cap L) (hl : 0 < L.length) : ∃ bb, a = some ⟨bb, 0, none⟩ ∧ lo ≤ bb ∧ bb < hi ∧ ∀ i, i < L.length → cellH h ⟨bb, i * 2, none⟩ = some (.bool (L.getD i (false, [])).1) ∧ ∃ ai ci, cellH h ⟨bb, i * 2 + 1, none⟩ = some (.slice ai (L.getD i (false, [])).2.length ci) ∧ IL h ai ci (L.getD i (false, [])).2 ∧ ∀ z, blkA ai = some z → lo ≤ z ∧ z < hi ∧ bb ≠ z := by
  obtain ⟨vs, h1, h2, h3, h4⟩ := v
  have hlen := h1.len
  obtain ⟨bb, e, g1, g2, g3, g4⟩ := OwnR.some h1 hl
  refine ⟨bb, e, g1, h2 bb (by rw [e]; rfl), fun i hi => ⟨by rw [g3 _ (by omega)]; exact (h4 i hi).1, ?_⟩⟩
  obtain ⟨ai, ci, k1, k2, k3⟩ := (h4 i hi).2
  refine ⟨ai, ci, by rw [g3 _ (by omega)]; exact k1, k2, fun z ez => ?_⟩
  have := k3 z ez
  exact ⟨this.1, this.2.1, fun x => this.2.2 (by rw [e, x]; rfl)⟩
theorem RV.le {lo hi : Nat} {h : Heap} {a : Option Addr} {cap : Nat} {L : List Rw} (v : RV lo hi h a cap L) : hi ≤ h.size := by obtain ⟨vs, h1, h2, h3, _⟩ := v; exact h3
theorem RV.own {lo hi : Nat} {h : Heap} {a : Option Addr} {cap : Nat} {L : List Rw} (v : RV lo hi h a cap L) : ∃ vs, OwnR lo h a L.length cap vs 135 2 := by obtain ⟨vs, h1, _⟩ := v; exact ⟨vs, h1⟩
theorem RV.wid {lo hi lo' hi' : Nat} {h : Heap} {a : Option Addr} {cap : Nat} {L : List Rw} (v : RV lo hi h a cap L) (h1 : lo' ≤ lo) (h2 : hi ≤ hi') (h3 : hi' ≤ h.size) : RV lo' hi' h a cap L := by
  obtain ⟨vs, g1, g2, g3, g4⟩ := v
  refine ⟨vs, ?_, fun z e => Nat.lt_of_lt_of_le (g2 z e) h2, h3, fun i hi => ⟨(g4 i hi).1, ?_⟩⟩
  · rcases g1 with x | ⟨b, cs, x1, x2, x3⟩
    · exact .inl x
    · exact .inr ⟨b, cs, x1, by omega, x3⟩
  · obtain ⟨ai, ci, k1, k2, k3⟩ := (g4 i hi).2
    exact ⟨ai, ci, k1, k2, fun z e => by have := k3 z e; exact ⟨by omega, by omega, this.2.2⟩⟩
theorem RV.snoc {lo hi : Nat} {h h' : Heap} {a a' : Option Addr} {cap cap' : Nat} {L : List Rw} {vs : List Value} {r : Rw} {ac : Option Addr} {cc : Nat}
    (v : RV lo hi h a cap L) (hvs : OwnR lo h a L.length cap vs 135 2) (ho : OwnR lo h' a' (L.length + 1) cap' (vs ++ [.bool r.1, .slice ac r.2.length cc]) 135 2) (he : Ext (fun z => blkA a = some z) h h') (hb : ∀ z, blkA a' = some z → blkA a = some z ∨ h.size ≤ z)
    (hc : IL h ac cc r.2) (hcl : ∀ z, blkA ac = some z → lo ≤ z ∧ blkA a ≠ some z) : RV lo h'.size h' a' cap' (L ++ [r]) := by
  obtain ⟨vs2, h1, h2, h3, h4⟩ := v
  have hL := h1.len; have hL2 := hvs.len
  have hlt : ∀ z, blkA a' = some z → z < h'.size := fun z e => (OwnR.blk2 ho e).2
  refine ⟨_, by rw [List.length_append]; exact ho, hlt, Nat.le_refl _, fun i hi => ?_⟩
  rcases Nat.lt_or_ge i L.length with hlt2 | hge
  · have e1 : (L ++ [r]).getD i (false, []) = L.getD i (false, []) := by simp [List.getD_eq_getElem?_getD, List.getElem?_append, hlt2]
    rw [e1]
    have e2 : ∀ j, j < vs.length → vs[j]? = vs2[j]? := fun j hj => by
      obtain ⟨b1, q1, _, _, q2, _⟩ := OwnR.some hvs (by omega)
      obtain ⟨b2, q3, _, _, q4, _⟩ := OwnR.some h1 (by omega)
      have : b1 = b2 := by rw [q1] at q3; injection q3 with q3; injection q3
      subst this
      rw [← q2 j (by omega), ← q4 j (by omega)]
    refine ⟨by rw [List.getElem?_append_left (by omega), e2 _ (by omega)]; exact (h4 i hlt2).1, ?_⟩
    obtain ⟨ai, ci, k1, k2, k3⟩ := (h4 i hlt2).2
    refine ⟨ai, ci, ?_, k2.ext he (fun z e x => (k3 z e).2.2 x), fun z e => ⟨(k3 z e).1, by have := k2.lt e; have := he.1; omega, fun x => ?_⟩⟩
    · rw [List.getElem?_append_left (by omega), e2 _ (by omega)]; exact k1
    · rcases hb z x with y | y
      · exact (k3 z e).2.2 y
      · have := k2.lt e; omega
  · have hi2 : i = L.length := by simp at hi; omega
    subst hi2
    have e1 : (L ++ [r]).getD L.length (false, []) = r := by simp [List.getD_eq_getElem?_getD]
    rw [e1]
    refine ⟨by rw [List.getElem?_append_right (by omega)]; simp [show L.length * 2 - vs.length = 0 by omega], ac, cc, ?_, hc.ext he (fun z e x => (hcl z e).2 x), fun z e => ⟨(hcl z e).1, by have := hc.lt e; have := he.1; omega, fun x => ?_⟩⟩
    · rw [List.getElem?_append_right (by omega)]; simp [show L.length * 2 + 1 - vs.length = 1 by omega]
    · rcases hb z x with y | y
      · exact (hcl z e).2 y
      · have := hc.lt e; omega
theorem new_blk {h : Heap} {a a1 : Option Addr} {n : Nat} (hb : blkA a1 = blkA a ∨ blkA a1 = some n) (hn : h.size ≤ n) : ∀ z, blkA a1 = some z → blkA a = some z ∨ h.size ≤ z := fun z e => by
  rcases hb with x | x
  · exact .inl (x ▸ e)
  · rw [x] at e; cases e; exact .inr hn
end Go.Proofs.Qxb6500401aGreat.ChkW
