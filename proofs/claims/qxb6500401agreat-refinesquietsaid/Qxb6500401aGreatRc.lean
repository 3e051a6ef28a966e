import Derived.Test.Qxb6500401aGreatWb
set_option linter.unusedVariables false
set_option linter.unusedSimpArgs false
namespace Go.Proofs.Qxb6500401aGreat
open Go.Eng Go.Trl

def itC (x : It) : List Value := [.int .i64 x.lit, .int .i64 x.lev, .int .i64 x.rea]
def its (L : List It) : List Value := L.flatMap itC
theorem its_len (L : List It) : (its L).length = L.length * 3 := by
  induction L with
  | nil => rfl
  | cons x r ih => unfold its at *; rw [List.flatMap_cons, List.length_append, ih]; simp [itC]; omega
theorem its_app (L : List It) (x : It) : its (L ++ [x]) = its L ++ [.int .i64 x.lit, .int .i64 x.lev, .int .i64 x.rea] := by simp [its, itC]
theorem its_get {x : It} : ∀ {L : List It} {i : Nat}, L[i]? = some x → (its L)[i * 3]? = some (.int .i64 x.lit) ∧ (its L)[i * 3 + 1]? = some (.int .i64 x.lev) ∧ (its L)[i * 3 + 2]? = some (.int .i64 x.rea)
  | [], i, h => by simp at h
  | y :: r, 0, h => by simp only [List.getElem?_cons_zero, Option.some.injEq] at h; subst h; simp [its, itC]
  | y :: r, i + 1, h => by
    have ih := its_get (show r[i]? = some x by simpa using h)
    have e : its (y :: r) = [.int .i64 y.lit, .int .i64 y.lev, .int .i64 y.rea] ++ its r := by simp [its, itC]
    rw [e]
    refine ⟨?_, ?_, ?_⟩
    · rw [List.getElem?_append_right (by simp; omega)]; simp [show (i + 1) * 3 - 3 = i * 3 by omega, ih.1]
    · rw [List.getElem?_append_right (by simp; omega)]; simp [show (i + 1) * 3 + 1 - 3 = i * 3 + 1 by omega, ih.2.1]
    · rw [List.getElem?_append_right (by simp; omega)]; simp [show (i + 1) * 3 + 2 - 3 = i * 3 + 2 by omega, ih.2.2]
def ints (l : List Int) : List Value := l.map (Value.int .i64)
theorem ints_len (l : List Int) : (ints l).length = l.length := by simp [ints]
theorem ints_snoc (l : List Int) (x : Int) : ints (l ++ [x]) = ints l ++ [.int .i64 x] := by simp [ints]
structure MT (h : Heap) (M : Nat) (a : Option Addr) (cap : Nat) (ja : Option Addr) (jc : Nat) (js : List Int) (s : TS) : Prop where
  t : B h M #[.slice a s.L.length cap, .int .i64 (s.k : Int), .int .i64 (s.c : Int), .slice ja js.length jc] 0
  it : OwnR 0 h a s.L.length cap (its s.L) 0 3
  ju : OwnR 0 h ja js.length jc (ints js) 3 1
  n1 : blkA a ≠ some M
  n2 : blkA ja ≠ some M
  n3 : ∀ b, blkA a = some b → blkA ja ≠ some b
  ok : Ok s
  jl : js.length ≤ 262145
/-- the model; its blocks are F's -/
def MS (h : Heap) (M : Nat) (F : Nat → Prop) (s : TS) : Prop := ∃ a cap ja jc js, MT h M a cap ja jc js s ∧ (∀ b, F b ↔ (b = M ∨ blkA a = some b ∨ blkA ja = some b))
def MX (F F' : Nat → Prop) (h h' : Heap) : Prop := Ext F h h' ∧ ∀ b, F' b → F b ∨ h.size ≤ b
theorem MX.refl (F : Nat → Prop) (h : Heap) : MX F F h h := ⟨Ext.refl _ _, fun _ hb => .inl hb⟩
theorem MX.quiet {F : Nat → Prop} {h h' : Heap} (he : Ext (fun _ => False) h h') : MX F F h h' := ⟨he.mono fun _ f => f.elim, fun _ hb => .inl hb⟩
theorem MX.trans {F F1 F2 : Nat → Prop} {h h1 h2 : Heap} (e1 : MX F F1 h h1) (e2 : MX F1 F2 h1 h2) : MX F F2 h h2 := by
  refine ⟨e1.1.step e2.1 fun c hb hs => ?_, fun c hb => ?_⟩
  · rcases e1.2 c hs with e | e
    · exact e
    · omega
  · rcases e2.2 c hb with e | e
    · exact e1.2 c e
    · have := e1.1.1; exact .inr (by omega)
theorem MT.ext {h h' : Heap} {M : Nat} {a ja : Option Addr} {cap jc : Nat} {js : List Int} {s : TS} {S : Nat → Prop} (m : MT h M a cap ja jc js s) (he : Ext S h h') (h1 : ¬ S M) (h2 : ∀ b, blkA a = some b → ¬ S b) (h3 : ∀ b, blkA ja = some b → ¬ S b) : MT h' M a cap ja jc js s :=
  ⟨m.t.ext he h1, OwnR.ext m.it he (fun b e => h2 b (by rw [e]; rfl)), OwnR.ext m.ju he (fun b e => h3 b (by rw [e]; rfl)), m.n1, m.n2, m.n3, m.ok, m.jl⟩
theorem MS.ext {h h' : Heap} {M : Nat} {F : Nat → Prop} {s : TS} {S : Nat → Prop} (m : MS h M F s) (he : Ext S h h') (hs : ∀ b, F b → ¬ S b) : MS h' M F s := by
  obtain ⟨a, cap, ja, jc, js, m, hF⟩ := m
  exact ⟨a, cap, ja, jc, js, m.ext he (hs M ((hF M).2 (.inl rfl))) (fun b e => hs b ((hF b).2 (.inr (.inl e)))) (fun b e => hs b ((hF b).2 (.inr (.inr e)))), hF⟩
theorem MS.lt {h : Heap} {M : Nat} {F : Nat → Prop} {s : TS} (m : MS h M F s) {b : Nat} (hb : F b) : b < h.size := by
  obtain ⟨a, cap, ja, jc, js, m, hF⟩ := m
  rcases (hF b).1 hb with e | e | e
  · rw [e]; exact m.t.lt
  · exact (OwnR.blk2 m.it e).2
  · exact (OwnR.blk2 m.ju e).2
theorem MS.M {h : Heap} {M : Nat} {F : Nat → Prop} {s : TS} (m : MS h M F s) : F M := by obtain ⟨a, cap, ja, jc, js, m, hF⟩ := m; exact (hF M).2 (.inl rfl)
theorem MS.ok {h : Heap} {M : Nat} {F : Nat → Prop} {s : TS} (m : MS h M F s) : Ok s := by obtain ⟨a, cap, ja, jc, js, m, hF⟩ := m; exact m.ok
theorem MS.eq {h : Heap} {M : Nat} {F : Nat → Prop} {s s2 : TS} (m : MS h M F s) (e : s = s2) : MS h M F s2 := e ▸ m
section mt
variable {h : Heap} {M : Nat} {a ja : Option Addr} {cap jc : Nat} {js : List Int} {s : TS}
theorem MT.c0 (m : MT h M a cap ja jc js s) : cellH h ⟨M, 0, none⟩ = some (.slice a s.L.length cap) := m.t.cell 0
theorem MT.c1 (m : MT h M a cap ja jc js s) : cellH h ⟨M, 1, none⟩ = some (.int .i64 (s.k : Int)) := m.t.cell 1
theorem MT.c2 (m : MT h M a cap ja jc js s) : cellH h ⟨M, 2, none⟩ = some (.int .i64 (s.c : Int)) := m.t.cell 2
theorem MT.c3 (m : MT h M a cap ja jc js s) : cellH h ⟨M, 3, none⟩ = some (.slice ja js.length jc) := m.t.cell 3
end mt
/-- items in a row -/
theorem row_get {h : Heap} {a : Option Addr} {cap lo : Nat} {L : List It} (ho : OwnR lo h a L.length cap (its L) 0 3) (hn : 0 < L.length) : ∃ ab, a = some ⟨ab, 0, none⟩ ∧ ab < h.size ∧ ∀ i, i < L.length → cellH h ⟨ab, i * 3, none⟩ = some (.int .i64 (L.getD i ⟨0, 0, 0⟩).lit) ∧ cellH h ⟨ab, i * 3 + 1, none⟩ = some (.int .i64 (L.getD i ⟨0, 0, 0⟩).lev) ∧ cellH h ⟨ab, i * 3 + 2, none⟩ = some (.int .i64 (L.getD i ⟨0, 0, 0⟩).rea) := by
  obtain ⟨ab, h1, _, h2, h3, h4⟩ := OwnR.some ho hn
  refine ⟨ab, h1, h2, fun i hi => ?_⟩
  have hg := its_get (show L[i]? = some (L.getD i ⟨0, 0, 0⟩) by simp [hi])
  have hl := its_len L
  exact ⟨by rw [h3 _ (by omega)]; exact hg.1, by rw [h3 _ (by omega)]; exact hg.2.1, by rw [h3 _ (by omega)]; exact hg.2.2⟩
theorem cells3 {h : Heap} {b o : Nat} {x y z : Value} (h0 : cellH h ⟨b, o, none⟩ = some x) (h1 : cellH h ⟨b, o + 1, none⟩ = some y) (h2 : cellH h ⟨b, o + 2, none⟩ = some z) : cellsH h ⟨b, o, none⟩ 0 3 = some [x, y, z] := by
  simp only [cellsH, add_mk, Nat.add_zero, Nat.zero_add, h0, h1, h2, Option.map_some]
theorem plaV_lt {L : List It} {v : Int} : plaV L v < L.length := by
  unfold plaV
  cases e : loc L v with
  | none => simp only []; omega
  | some p =>
    have := (loc_some e).1
    rcases Nat.lt_or_ge p.1 L.length with x | x
    · simp only []; omega
    · simp [List.getElem?_eq_none x] at this
theorem pla_item {L : List It} {v : Int} {n : Nat} (h : plaV L v = n) : ∃ x, L[n]? = some x ∧ L.getD n ⟨0, 0, 0⟩ = x ∧ loc L v = some (n, x) := by
  unfold plaV at h
  cases e : loc L v with
  | none => rw [e] at h; simp only at h; omega
  | some p =>
    rw [e] at h
    have := (loc_some e).1
    obtain ⟨i, x⟩ := p
    simp only at h this
    have hi : i = n := by omega
    subst hi
    exact ⟨x, this, by simp [this], rfl⟩
end Go.Proofs.Qxb6500401aGreat
