import Derived.Test.Qxb6500401aGreatEh
import Derived.Test.Qxb6500401aGreatRows
import Derived.ProofKit
set_option linter.unusedVariables false
set_option linter.unusedSimpArgs false
namespace Go.Eng
open Go Go.ChangeShapes Go.WideShapes Go.ChangeAt Go.RowKit
section
variable {H : Type} {enc : TypeId × Value → H} {P : Program} {w : World} {base : Nat} {sp : Nat → Bool} {held : Bool} {fuel : Nat} {t e : TypeId} {cs : List Value} {x : DataW H × List MemPlace}
theorem trod_int {k : IntKind} (ht : P.underlying t = some (.int k)) (h : DataW.trod enc P w base sp held fuel t cs = some x) : ∃ n, cs = [.int k n] := by
  cases fuel with
  | zero => simp [DataW.trod] at h
  | succ f =>
    unfold DataW.trod at h
    rw [ht] at h
    split at h <;> first | (rename_i e1 _; cases e1; done) | skip
    all_goals first | (simp_all; done) | skip
theorem trod_str (ht : P.underlying t = some .string) (h : DataW.trod enc P w base sp held fuel t cs = some x) : ∃ s, cs = [.string s] ∧ s.size ≤ maxLen := by
  cases fuel with
  | zero => simp [DataW.trod] at h
  | succ f =>
    unfold DataW.trod at h
    rw [ht] at h
    split at h <;> first | (rename_i e1 _; cases e1; done) | skip
    all_goals first | (simp_all; done) | skip
theorem trod_slice {a : Option Addr} {n cap : Nat} (ht : P.underlying t = some (.slice e)) (h : DataW.trod enc P w base sp held fuel t [.slice a n cap] = some x) :
    (n = 0) ∨ ∃ a', a = some a' ∧ n ≤ maxLen ∧ ∃ f, (∀ i, i < n → ∃ l y, w.cells? base (a'.add (i * P.cellsOf e)) (P.cellsOf e) = some l ∧ DataW.trod enc P w base sp held f e l = some y) ∧ ∃ m r, n ≤ m ∧ x.2 = MemPlace.row a' (m * P.cellsOf e) ++ r := by
  cases fuel with
  | zero => simp [DataW.trod] at h
  | succ f =>
    unfold DataW.trod at h
    rw [ht] at h
    cases a with
    | none =>
      left
      simp only at h
      split at h <;> simp_all
    | some a =>
      right
      simp only at h
      split at h
      · rename_i hc
        rw [Option.bind_eq_some_iff] at h
        obtain ⟨elems, he, h2⟩ := h
        rw [Option.map_eq_some_iff] at h2
        obtain ⟨rest, hr, h3⟩ := h2
        have hlen := mapM_some_length he
        refine ⟨a, rfl, Nat.le_trans hc.2.1 hc.2.2, f, fun i hi => ?_, elems.length + rest.length, _, by simp at hlen; omega, by rw [← h3]⟩
        have hg := mapM_some_get he i i (by simp [hi])
        have hi2 : i < elems.length := by simp at hlen; omega
        rw [List.getElem?_eq_getElem hi2, Option.bind_eq_some_iff] at hg
        obtain ⟨l, h4, h5⟩ := hg
        exact ⟨l, _, h4, h5⟩
      · cases h
theorem cells?_H {b o n i : Nat} {l : List Value} (h : ((List.range' i n).mapM fun j => w.cell? ((⟨b, o, none⟩ : Addr).add j)) = some l) : cellsH w.heap ⟨b, o, none⟩ i n = some l := by
  induction n generalizing i l with
  | zero => simp at h; subst h; rfl
  | succ n ih =>
    rw [List.range'_succ, List.mapM_cons] at h
    simp only [Option.bind_eq_bind, Option.bind_eq_some_iff, Option.pure_def, Option.some.injEq] at h
    obtain ⟨v, hv, l2, hl, rfl⟩ := h
    have hv2 : cellH w.heap ((⟨b, o, none⟩ : Addr).add i) = some v := hv
    simp only [cellsH, hv2, ih hl, Option.map_some]
theorem wcells_H {b o n : Nat} {l : List Value} (h : w.cells? base ⟨b, o, none⟩ n = some l) : cellsH w.heap ⟨b, o, none⟩ 0 n = some l := by
  unfold World.cells? at h
  split at h
  · rw [List.range_eq_range'] at h; exact cells?_H h
  · cases h
theorem wcells_spot {a : Addr} {n : Nat} {l : List Value} (hn : 0 < n) (h : w.cells? base a n = some l) : a.spot = none := by
  unfold World.cells? at h
  split at h
  · have hg := mapM_some_get h 0 0 (by simp [hn])
    have hz : l.length = n := by simpa using mapM_some_length h
    rw [List.getElem?_eq_getElem (by omega)] at hg
    simpa [Addr.add] using World.cell?_spot hg
  · cases h
/-- a call's contract, at the world's door -/
theorem FC.below {f : FuncId} {args : Array Value} {R : Value → Prop} (hf : FC P f args w.heap fun v h' => R v ∧ Ext (fun b => w.heap.size ≤ b) w.heap h') :
    Calls P f args w fun e w' => ∃ v, e = .returned v ∧ R v ∧ Below w.heap.size w w' := by
  have hw : wd w w.heap w.drawn = w := rfl
  have h := hf w w.drawn
  rw [hw] at h
  refine h.mono fun e w' ⟨v, h', d', h1, h2, h3, h4⟩ => ⟨v, h1, h3, ?_⟩
  subst h2
  exact ⟨rfl, rfl, rfl, h4.1, fun k hk => h4.2 k hk (by omega)⟩
end
end Go.Eng

