import Derived.Test.Qxb6500401aGreatEi
set_option linter.unusedVariables false
set_option linter.unusedSimpArgs false
namespace Go.Eng
theorem B.all {h : Heap} {b : Nat} {cs : Array Value} {t : TypeId} (hb : B h b cs t) {n : Nat} (hn : n = cs.size) : cellsH h ⟨b, 0, none⟩ 0 n = some cs.toList := by
  subst hn
  rw [cellsH_blk (o := 0) hb cs.size 0 (by omega)]; simp only [Nat.zero_add, List.drop_zero]; rw [List.take_of_length_le (by simp)]
theorem retc1 {P : Program} {fn : Func} {Rel : Value → Heap → Prop} {l : Fr} {h : Heap} {c b n : Nat} {ty t : TypeId} {cs : Array Value} (hr : fn.results = #[.cell c ty]) (hv : E l c = some (.pointer (some ⟨b, 0, none⟩))) (ha : agS P ty = some (some n)) (hb : B h b cs t) (hn : n = cs.size) (hR : Rel (.agg cs) h) : retK P fn Rel l h :=
  ⟨[.agg cs], by rw [hr]; simp only [resV, hv, loadV, ha, hb.all hn, Option.map_some]; try rfl, hR⟩
theorem retc2 {P : Program} {fn : Func} {Rel : Value → Heap → Prop} {l : Fr} {h : Heap} {c u b n : Nat} {ty t : TypeId} {cs : Array Value} {w : Value} (hr : fn.results = #[.cell c ty, .tmp u]) (hv : E l c = some (.pointer (some ⟨b, 0, none⟩))) (ha : agS P ty = some (some n)) (hw : E l u = some w) (hb : B h b cs t) (hn : n = cs.size) (hR : Rel (.tuple #[.agg cs, w]) h) : retK P fn Rel l h :=
  ⟨[.agg cs, w], by rw [hr]; simp only [resV, hv, hw, loadV, ha, hb.all hn, Option.map_some]; try rfl, hR⟩
theorem sliceV_cut0 {P : Program} {t : TypeId} {z : Nat} {a : Option Addr} {len cap : Nat} {k : IntKind} (hz : elS P t = some z) : sliceV P t (.slice a len cap) none (some (.int k 0)) = some (.slice a 0 cap) := by
  simp only [sliceV, hz, loV]
  rw [if_pos ⟨Int.le_refl 0, Int.le_refl 0, by omega⟩]
  cases a <;> simp [add_zero']
end Go.Eng
