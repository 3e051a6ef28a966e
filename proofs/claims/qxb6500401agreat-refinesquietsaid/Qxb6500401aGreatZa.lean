import Derived.Test.Qxb6500401aGreatTp
import Derived.Test.Qxb6500401aGreatNf
set_option linter.unusedVariables false
set_option linter.unusedSimpArgs false
namespace Go.Proofs.Qxb6500401aGreat
open Go.ChangeShapes Go.WideShapes Go.ChangeAt Go.RowKit Go.Eng Go.Trl Go.Chk Go.Wat
theorem ownTop : ownKnob Tryz.prog.godebug = none := by kernel_rfl
theorem laidOut0 : laidOutB Tryz.prog = true := by kernel_rfl
theorem topc44 : Tryz.prog.cellsOf 44 = 6 := by kernel_rfl
theorem topc3 : Tryz.prog.cellsOf 3 = 1 := by kernel_rfl
theorem topc9 : Tryz.prog.cellsOf 9 = 1 := by kernel_rfl
set_option maxRecDepth 100000 in
theorem open_op {H : Type} {enc : TypeId × Value → H} {w : World} {base : Nat} {sp : Nat → Bool} {held : Bool} {fuel : Nat} {cs : List Value} {x : DataW H × List MemPlace} (h : DataW.trod enc Tryz.prog w base sp held fuel 44 cs = some x) :
    ∃ k a b c s u, cs = [.int .i64 k, .int .i64 a, .int .i64 b, .int .i64 c, .string s, .string u]  := by
  cases fuel with
  | zero => simp [DataW.trod] at h
  | succ f =>
    unfold DataW.trod at h
    rw [Tryz.underlying44] at h
    simp only [topc44] at h
    split at h
    · rename_i hl
      rw [Option.map_eq_some_iff] at h
      obtain ⟨ys, hy, _⟩ := h
      match cs, hl with
      | [c0, c1, c2, c3, c4, c5], _ =>
        simp only [List.mapM_cons, List.mapM_nil, Option.bind_eq_bind, Option.bind_eq_some_iff, Option.pure_def, Option.some.injEq, topc3, topc9] at hy
        obtain ⟨y0, e0, _, ⟨y1, e1, _, ⟨y2, e2, _, ⟨y3, e3, _, ⟨y4, e4, _, ⟨y5, e5, _⟩, _⟩, _⟩, _⟩, _⟩, _⟩ := hy
        obtain ⟨n0, f0⟩ := trod_int Tryz.underlying3 e0
        obtain ⟨n1, f1⟩ := trod_int Tryz.underlying3 e1
        obtain ⟨n2, f2⟩ := trod_int Tryz.underlying3 e2
        obtain ⟨n3, f3⟩ := trod_int Tryz.underlying3 e3
        obtain ⟨s4, f4, z4⟩ := trod_str Tryz.underlying9 e4
        obtain ⟨s5, f5, z5⟩ := trod_str Tryz.underlying9 e5
        simp at f0 f1 f2 f3 f4 f5
        subst f0 f1 f2 f3 f4 f5
        exact ⟨_, _, _, _, _, _, rfl⟩
    · cases h
set_option maxRecDepth 100000 in
theorem open_scr {H : Type} {enc : TypeId × Value → H} {W : World} {sp : Nat → Bool} {fuel : Nat} {a : Option Addr} {n cap : Nat} {x : DataW H × List MemPlace} (h : DataW.trod enc Tryz.prog W 0 sp true fuel 22 [.slice a n cap] = some x) (hlt : ∀ p ∈ x.2, p.block < W.heap.size) :
    Scr W.heap.size W.heap a n ∧ n ≤ 9223372036854775807 := by
  rcases trod_slice Tryz.underlying22 h with rfl | ⟨a', rfl, hm, f, hc, m, r, hn, hp⟩
  · exact ⟨fun i hi => by omega, by omega⟩
  · refine ⟨fun i hi => ?_, by unfold maxLen at hm; omega⟩
    obtain ⟨l, y, h1, h2⟩ := hc i hi
    rw [topc44] at h1 hp
    obtain ⟨k, x1, x2, x3, s, u, rfl⟩ := open_op h2
    obtain ⟨b, off, spot⟩ := a'
    have hs : spot = none := by
      obtain ⟨l0, _, h10, _⟩ := hc 0 (by omega)
      rw [topc44] at h10
      simpa [Addr.add] using wcells_spot (by omega) h10
    subst hs
    rw [add_mk] at h1
    refine ⟨b, off, rfl, ?_, k, x1, x2, x3, s, u, wcells_H h1⟩
    refine hlt (.cell b off) ?_
    rw [hp]
    refine List.mem_append_left _ (MemPlace.mem_row.2 ⟨0, by omega, by simp⟩)

set_option maxRecDepth 100000 in
theorem refines_lifted (os : Os) (started : os.Started) (H : Type) (enc : TypeId × Value → H) :
    ReturnsInHanded {} Tryz.checked os 3 .any (Rows.refinesSpec.pre6 enc Tryz.prog Tryz.f3 Rows.refinesRow.domain false) (Rows.refinesSpec.post enc Tryz.prog Tryz.f3 false true false false) := by
  refine returnsInHanded_of_change (C := Tryz.checked) ownTop started (by kernel_rfl) Tryz.func3
    (ChangeSpec.witness6 (enc := enc) (C := Tryz.checked) false ⟨#[], #[.slice none 0 0], []⟩ 8 (by kernel_rfl) (by kernel_rfl) (by kernel_rfl) (by kernel_rfl)) ?_
  intro W base args ds gs before hval0 hW hcnd _
  have hval : ∀ (j : Nat) t v, Tryz.f3.params[j]? = some t → args[j]? = some v → Value.okWide Tryz.prog W .any base t v := hval0
  have hW' := hW
  obtain ⟨p, q, hA0, hV, rfl, hfz, hnd⟩ := hW
  have hA : DataW.TrodAll enc Tryz.prog W 0 (fun _ => true) true Tryz.f3.params.toList args.toList ds p := hA0
  rw [Tryz.params3] at hA hval
  obtain ⟨v0, d0, rfl, rfl, h0⟩ := trodAll_one hA
  obtain ⟨rfl, rfl⟩ := trodVars_none hV
  obtain ⟨a0, len, cap, rfl⟩ := okWide_slice Tryz.underlying22 (hval 0 22 v0 rfl rfl)
  clear hA0 hval0 hA
  simp only [List.append_nil] at hW' hfz
  have hlt : ∀ x ∈ p, x.block < W.heap.size := fun x hx => hW'.lt x hx
  obtain ⟨fuel, hf⟩ := h0
  obtain ⟨hscr, hlen⟩ := open_scr (show DataW.trod enc Tryz.prog W 0 (fun _ => true) true fuel 22 [.slice a0 len cap] = some (d0, p) from hf) hlt
  refine ((FC.below (ref_spec W.heap a0 len cap hscr hlen)).mono fun e W' ⟨v, he, hv, hb⟩ => ?_)
  subst he hv
  refine ⟨_, rfl, [d0], [], p, [], p, [], hW', ?_, ?_, rfl, hb.frame _, fun hh => nomatch hh⟩
  · exact trodAll_mk1 (shut_bool Tryz.underlying4 _)
  · exact trodAll_mk1 (Below.trod laidOut0 (by kernel_rfl) (of_decide_eq_true (by kernel_rfl)) ⟨fuel, hf⟩ hb hlt)
theorem refines_holds : Rows.RefinesSaid :=
  OpenClaim.holds_of_wide 3 Tryz.f3 rfl rfl rfl rfl rfl rfl rfl ⟨rfl, rfl, rfl, rfl, rfl⟩ rfl rfl rfl rfl rfl (by kernel_rfl) Tryz.func3 (by kernel_rfl)
    (of_decide_eq_true (by kernel_rfl)) (by unfold Func.isWrapper; first | (rw [if_pos (by decide +kernel)]; kernel_rfl) | (rw [if_neg (by decide +kernel)]; exact ⟨rfl, rfl⟩))
    (fun os started H enc _ => refines_lifted os started H enc)

set_option maxRecDepth 100000 in
theorem refinesQuiet_lifted (os : Os) (started : os.Started) (H : Type) (enc : TypeId × Value → H) :
    ReturnsInHanded {} Tryz.checked os 4 .any (Rows.refinesQuietSpec.pre6 enc Tryz.prog Tryz.f4 Rows.refinesQuietRow.domain false) (Rows.refinesQuietSpec.post enc Tryz.prog Tryz.f4 false true false false) := by
  refine returnsInHanded_of_change (C := Tryz.checked) ownTop started (by kernel_rfl) Tryz.func4
    (ChangeSpec.witness6 (enc := enc) (C := Tryz.checked) false ⟨#[], #[.slice none 0 0], []⟩ 8 (by kernel_rfl) (by kernel_rfl) (by kernel_rfl) (by kernel_rfl)) ?_
  intro W base args ds gs before hval0 hW hcnd _
  have hval : ∀ (j : Nat) t v, Tryz.f4.params[j]? = some t → args[j]? = some v → Value.okWide Tryz.prog W .any base t v := hval0
  have hW' := hW
  obtain ⟨p, q, hA0, hV, rfl, hfz, hnd⟩ := hW
  have hA : DataW.TrodAll enc Tryz.prog W 0 (fun _ => true) true Tryz.f4.params.toList args.toList ds p := hA0
  rw [Tryz.params4] at hA hval
  obtain ⟨v0, d0, rfl, rfl, h0⟩ := trodAll_one hA
  obtain ⟨rfl, rfl⟩ := trodVars_none hV
  obtain ⟨a0, len, cap, rfl⟩ := okWide_slice Tryz.underlying22 (hval 0 22 v0 rfl rfl)
  clear hA0 hval0 hA
  simp only [List.append_nil] at hW' hfz
  have hlt : ∀ x ∈ p, x.block < W.heap.size := fun x hx => hW'.lt x hx
  obtain ⟨fuel, hf⟩ := h0
  obtain ⟨hscr, hlen⟩ := open_scr (show DataW.trod enc Tryz.prog W 0 (fun _ => true) true fuel 22 [.slice a0 len cap] = some (d0, p) from hf) hlt
  refine ((FC.below (refq_spec W.heap a0 len cap hscr hlen)).mono fun e W' ⟨v, he, hv, hb⟩ => ?_)
  subst he hv
  refine ⟨_, rfl, [d0], [], p, [], p, [], hW', ?_, ?_, rfl, hb.frame _, fun hh => nomatch hh⟩
  · exact trodAll_mk1 (shut_bool Tryz.underlying4 _)
  · exact trodAll_mk1 (Below.trod laidOut0 (by kernel_rfl) (of_decide_eq_true (by kernel_rfl)) ⟨fuel, hf⟩ hb hlt)
theorem refinesQuiet_holds : Rows.RefinesQuietSaid :=
  OpenClaim.holds_of_wide 4 Tryz.f4 rfl rfl rfl rfl rfl rfl rfl ⟨rfl, rfl, rfl, rfl, rfl⟩ rfl rfl rfl rfl rfl (by kernel_rfl) Tryz.func4 (by kernel_rfl)
    (of_decide_eq_true (by kernel_rfl)) (by unfold Func.isWrapper; first | (rw [if_pos (by decide +kernel)]; kernel_rfl) | (rw [if_neg (by decide +kernel)]; exact ⟨rfl, rfl⟩))
    (fun os started H enc _ => refinesQuiet_lifted os started H enc)
end Go.Proofs.Qxb6500401aGreat
