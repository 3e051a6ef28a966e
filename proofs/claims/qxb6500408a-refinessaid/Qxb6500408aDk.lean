import Derived.Test.Qxb6500408aWd
set_option linter.unusedVariables false
set_option linter.unusedSimpArgs false
namespace Go.Proofs.Qxb6500408a
open Go.Eng Go.Lz

/-! ### the law's desk -/
structure DS where
  text : ByteArray
  lid : Nat
  x : Option Addr × Nat
  m : Option Addr × Nat
  old : Nat → Option Addr × Nat
  n : Nat
  far : Option Addr × Nat
  na : Nat
  pin : Bool
  held : Option Addr × Nat
def sl (p : Option Addr × Nat) : Value := .slice p.1 p.2 p.2
def dcells (t : DS) : Array Value := #[.string t.text, .int .i64 t.lid, sl t.x, sl t.m, sl (t.old 0), sl (t.old 1), sl (t.old 2), sl (t.old 3), .int .i64 t.n, sl t.far, .int .i64 t.na, .bool t.pin, sl t.held]
abbrev blkV (p : Option Addr × Nat) : Option Nat := blkA p.1
/-- a kept list: all stamp, away from 'no' -/
def Kept (h : Heap) (no : Nat → Prop) (v : Option Addr × Nat) : Prop := v = (none, 0) ∨ ∃ b n, v = (some ⟨b, 0, none⟩, n) ∧ B h b (arr (n * 3) fun _ => .int .i64 (-7)) 61 ∧ ¬ no b ∧ n ≤ 256
/-- an answered list -/
def Ans (h : Heap) (v : Option Addr × Nat) (ts : List Tok) : Prop := (v = (none, 0) ∧ ts = []) ∨ ∃ b, v = (some ⟨b, 0, none⟩, ts.length) ∧ TokB h b ts
theorem Ans.len {h : Heap} {v : Option Addr × Nat} {ts : List Tok} (ha : Ans h v ts) : v.2 = ts.length := by
  rcases ha with ⟨e, e2⟩ | ⟨b, e, _⟩
  · rw [e, e2]; rfl
  · rw [e]
structure Dk (h : Heap) (D : Nat) (no : Nat → Prop) (t : DS) : Prop where
  s : B h D (dcells t) 35
  old : ∀ i, i < 4 → Kept h no (t.old i)
  far : Kept h no t.far
  held : Kept h no t.held
  n4 : t.n < 4
  noD : no D
def Away (t : DS) (b : Nat) : Prop := (∀ i, i < 4 → blkV (t.old i) ≠ some b) ∧ blkV t.far ≠ some b ∧ blkV t.held ≠ some b

theorem Kept.ext {h h' : Heap} {no S : Nat → Prop} {v : Option Addr × Nat} (hk : Kept h no v) (he : Ext S h h') (hS : ∀ b, blkV v = some b → ¬ no b → ¬ S b) : Kept h' no v := by
  rcases hk with e | ⟨b, n, e, hb, hn, hl⟩
  · exact .inl e
  · exact .inr ⟨b, n, e, hb.ext he (hS b (by rw [e]; rfl) hn), hn, hl⟩
theorem Kept.lt {h : Heap} {no : Nat → Prop} {v : Option Addr × Nat} {b : Nat} (hk : Kept h no v) (hb : blkV v = some b) : b < h.size ∧ ¬ no b := by
  rcases hk with e | ⟨b2, n, e, hb2, hn, _⟩
  · rw [e] at hb; simp [blkV, blkA] at hb
  · rw [e] at hb; simp [blkV, blkA] at hb; subst hb; exact ⟨hb2.lt, hn⟩
theorem Ans.ext {h h' : Heap} {S : Nat → Prop} {v : Option Addr × Nat} {ts : List Tok} (hk : Ans h v ts) (he : Ext S h h') (hS : ∀ b, blkV v = some b → ¬ S b) : Ans h' v ts := by
  rcases hk with e | ⟨b, e, hb⟩
  · exact .inl e
  · exact .inr ⟨b, e, B.ext hb he (hS b (by rw [e]; rfl))⟩
theorem Ans.lt {h : Heap} {v : Option Addr × Nat} {ts : List Tok} {b : Nat} (hk : Ans h v ts) (hb : blkV v = some b) : b < h.size := by
  rcases hk with ⟨e, _⟩ | ⟨b2, e, hb2⟩
  · rw [e] at hb; simp [blkV, blkA] at hb
  · rw [e] at hb; simp [blkV, blkA] at hb; subst hb; exact B.lt hb2
/-- the desk where its own block and one list turn -/
theorem Dk.ext {h h' : Heap} {D : Nat} {no S : Nat → Prop} {t t' : DS} (hd : Dk h D no t) (he : Ext S h h') (hs : B h' D (dcells t') 35) (hS : ∀ b, S b → no b ∨ Away t b)
    (e1 : ∀ i, i < 4 → t'.old i = t.old i) (e2 : t'.far = t.far) (e3 : t'.held = t.held) (e4 : t'.n = t.n) : Dk h' D no t' := by
  refine ⟨hs, fun i hi => ?_, ?_, ?_, by rw [e4]; exact hd.n4, hd.noD⟩
  · rw [e1 i hi]; exact (hd.old i hi).ext he (fun b hb hn hs => by rcases hS b hs with h | h; exact hn h; exact h.1 i hi hb)
  · rw [e2]; exact hd.far.ext he (fun b hb hn hs => by rcases hS b hs with h | h; exact hn h; exact h.2.1 hb)
  · rw [e3]; exact hd.held.ext he (fun b hb hn hs => by rcases hS b hs with h | h; exact hn h; exact h.2.2 hb)
section desk
variable {h : Heap} {D : Nat} {no : Nat → Prop} {t : DS}
theorem Dk.c0 (hD : Dk h D no t) : cellH h ⟨D, 0, none⟩ = some (.string t.text) := hD.s.cell 0
theorem Dk.c1 (hD : Dk h D no t) : cellH h ⟨D, 1, none⟩ = some (.int .i64 t.lid) := hD.s.cell 1
theorem Dk.c2 (hD : Dk h D no t) : cellH h ⟨D, 2, none⟩ = some (.slice t.x.1 t.x.2 t.x.2) := hD.s.cell 2
theorem Dk.c3 (hD : Dk h D no t) : cellH h ⟨D, 3, none⟩ = some (.slice t.m.1 t.m.2 t.m.2) := hD.s.cell 3
theorem Dk.co (hD : Dk h D no t) {i : Nat} (hi : i < 4) : cellH h ⟨D, 4 + i, none⟩ = some (.slice (t.old i).1 (t.old i).2 (t.old i).2) := by
  rcases (show i = 0 ∨ i = 1 ∨ i = 2 ∨ i = 3 by omega) with e | e | e | e <;> subst e
  · exact hD.s.cell 4
  · exact hD.s.cell 5
  · exact hD.s.cell 6
  · exact hD.s.cell 7
theorem Dk.c8 (hD : Dk h D no t) : cellH h ⟨D, 8, none⟩ = some (.int .i64 t.n) := hD.s.cell 8
theorem Dk.c9 (hD : Dk h D no t) : cellH h ⟨D, 9, none⟩ = some (.slice t.far.1 t.far.2 t.far.2) := hD.s.cell 9
theorem Dk.c10 (hD : Dk h D no t) : cellH h ⟨D, 10, none⟩ = some (.int .i64 t.na) := hD.s.cell 10
theorem Dk.c11 (hD : Dk h D no t) : cellH h ⟨D, 11, none⟩ = some (.bool t.pin) := hD.s.cell 11
theorem Dk.c12 (hD : Dk h D no t) : cellH h ⟨D, 12, none⟩ = some (.slice t.held.1 t.held.2 t.held.2) := hD.s.cell 12
theorem Dk.ok (hD : Dk h D no t) {i : Nat} (hi : i < 13) : okPut h ⟨D, i, none⟩ = true := hD.s.ok (by simpa [dcells] using hi)
end desk
/-- k elements stamped -/
def stampTo (k : Nat) (f : Nat → Value) : Nat → Value := fun j => if j < k * 3 then .int .i64 (-7) else f j
theorem stamp_step {h : Heap} {b m k : Nat} {f : Nat → Value} {t : TypeId} (hb : B h b (arr m (stampTo k f)) t) : B (putsH h b (k * 3) [.int .i64 (-7), .int .i64 (-7), .int .i64 (-7)]) b (arr m (stampTo (k + 1) f)) t := by
  have := ((hb.putA (k * 3) (.int .i64 (-7))).putA (k * 3 + 1) (.int .i64 (-7))).putA (k * 3 + 2) (.int .i64 (-7))
  refine this.cong ?_
  apply arr_ext
  intro j hj
  simp only [stampTo]
  by_cases h1 : j = k * 3 + 2
  · rw [if_pos h1, if_pos (by omega)]
  · rw [if_neg h1]
    by_cases h2 : j = k * 3 + 1
    · rw [if_pos h2, if_pos (by omega)]
    · rw [if_neg h2]
      by_cases h3 : j = k * 3
      · rw [if_pos h3, if_pos (by omega)]
      · rw [if_neg h3]
        by_cases h4 : j < k * 3
        · rw [if_pos h4, if_pos (by omega)]
        · rw [if_neg h4, if_neg (by omega)]
theorem stamp_all {h : Heap} {b n : Nat} {f : Nat → Value} {t : TypeId} (hb : B h b (arr (n * 3) (stampTo n f)) t) : B h b (arr (n * 3) fun _ => .int .i64 (-7)) t :=
  hb.cong (arr_ext fun j hj => by simp only [stampTo]; rw [if_pos hj])
def updO (f : Nat → Option Addr × Nat) (i : Nat) (v : Option Addr × Nat) : Nat → Option Addr × Nat := fun j => if j = i then v else f j
/-- the desk's own block turns nothing that is kept -/
theorem Dk.own {h : Heap} {D i : Nat} {no : Nat → Prop} {t : DS} {u : Value} (hd : Dk h D no t) {v : Option Addr × Nat} (hk : Kept h no v) : Kept (putH h ⟨D, i, none⟩ u) no v :=
  hk.ext (Ext.put (fun b => b = D) h rfl) (fun b _ hn e => hn (e ▸ hd.noD))
theorem Dk.set_old {h : Heap} {D : Nat} {no : Nat → Prop} {t : DS} (hd : Dk h D no t) (v : Option Addr × Nat) (hk : Kept h no v) : Dk (putH h ⟨D, 4 + t.n, none⟩ (.slice v.1 v.2 v.2)) D no { t with old := updO t.old t.n v } := by
  refine ⟨?_, fun i hi => ?_, hd.own hd.far, hd.own hd.held, hd.n4, hd.noD⟩
  · refine (hd.s.put (4 + t.n) _).cong ?_
    rcases (show t.n = 0 ∨ t.n = 1 ∨ t.n = 2 ∨ t.n = 3 by have := hd.n4; omega) with e | e | e | e <;> simp only [e, dcells, updO, sl] <;> rfl
  · simp only [updO]
    split
    · exact hd.own hk
    · exact hd.own (hd.old i hi)
theorem Dk.set_n {h : Heap} {D : Nat} {no : Nat → Prop} {t : DS} (hd : Dk h D no t) {v : Int} {k : Nat} (e : v = k) (hk : k < 4) : Dk (putH h ⟨D, 8, none⟩ (.int .i64 v)) D no { t with n := k } := by
  subst e
  exact ⟨hd.s.put 8 _, fun i hi => hd.own (hd.old i hi), hd.own hd.far, hd.own hd.held, hk, hd.noD⟩
theorem Dk.set_far {h : Heap} {D : Nat} {no : Nat → Prop} {t : DS} (hd : Dk h D no t) (v : Option Addr × Nat) (hk : Kept h no v) : Dk (putH h ⟨D, 9, none⟩ (.slice v.1 v.2 v.2)) D no { t with far := v } :=
  ⟨hd.s.put 9 _, fun i hi => hd.own (hd.old i hi), hd.own hk, hd.own hd.held, hd.n4, hd.noD⟩
theorem Dk.rebuild {h h' : Heap} {D bx : Nat} {no : Nat → Prop} {t t' : DS} (hd : Dk h D no t) (he : Ext (fun b => b = D ∨ b = bx) h h') (hs : B h' D (dcells t') 35) (hAw : Away t bx) (e1 : t'.old = t.old) (e2 : t'.n = t.n)
    (hf : t'.far = t.far ∨ Kept h' no t'.far) (hh : t'.held = t.held ∨ Kept h' no t'.held) : Dk h' D no t' := by
  refine ⟨hs, fun i hi => ?_, ?_, ?_, by rw [e2]; exact hd.n4, hd.noD⟩
  · rw [e1]; exact (hd.old i hi).ext he (fun b hb hn e => by rcases e with e | e; exact hn (e ▸ hd.noD); exact hAw.1 i hi (e ▸ hb))
  · rcases hf with e | e
    · rw [e]; exact hd.far.ext he (fun b hb hn e => by rcases e with e | e; exact hn (e ▸ hd.noD); exact hAw.2.1 (e ▸ hb))
    · exact e
  · rcases hh with e | e
    · rw [e]; exact hd.held.ext he (fun b hb hn e => by rcases e with e | e; exact hn (e ▸ hd.noD); exact hAw.2.2 (e ▸ hb))
    · exact e
theorem stamp_zero (f : Nat → Value) : stampTo 0 f = f := by funext j; simp [stampTo]
end Go.Proofs.Qxb6500408a
