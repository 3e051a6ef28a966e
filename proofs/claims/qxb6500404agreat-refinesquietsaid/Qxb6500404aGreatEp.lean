import Derived.Test.Qxb6500404aGreatEk
set_option linter.unusedVariables false
set_option linter.unusedSimpArgs false
namespace Go.Eng
theorem sliceV_lo {P : Program} {t : TypeId} {z b o len cap p : Nat} {k : IntKind} (hz : elS P t = some z) (h1 : p ≤ len) (h2 : len ≤ cap) (h3 : p < cap) : sliceV P t (.slice (some ⟨b, o, none⟩) len cap) (some (.int k (p : Int))) none = some (.slice (some ⟨b, o + p * z, none⟩) (len - p) (cap - p)) := by
  simp only [sliceV, hz, loV]
  rw [if_pos ⟨by omega, by omega, by omega⟩, Int.toNat_natCast, if_neg (by omega), Int.toNat_natCast]
  simp only [Option.map_some, add_mk]
/-- copy into a window of a block -/
theorem S_copyo {P : Program} {ops os : List Oper} {K : Ko} {l : Fr} {h : Heap} {d : Nat} {ty : TypeId} {pos : String} {aft : Array Edge} {args : Array Operand} {dT xT : TypeId} {b' o m dLen dCap sLen sCap size k : Nat} {a : Option Addr} {g : Nat → Value} {xs : List Value} {t' : TypeId}
    (hz : elS P dT = some size) (ha : evs (E l) args.toList = some [.slice (some ⟨b', o, none⟩) dLen dCap, .slice a sLen sCap]) (hk : min sLen dLen = k) (hsrc : srcV h size k (.slice a sLen sCap) = some xs) (hb' : B h b' (arr m g) t') (hm : o + xs.length ≤ m) (hv : ∀ v ∈ xs, v.oneCell' = true)
    (hc : ∀ h', B h' b' (arr m fun j => if o ≤ j ∧ j < o + xs.length then xs.getD (j - o) undef else g j) t' → Ext (fun x => x = b') h h' → h'.size = h.size → S P ops K os ((d, .int .i64 (k : Nat)) :: l) h') : S P ops K (⟨some d, .call ⟨.builtin .copy, args, #[dT, xT]⟩, ty, pos, aft, none⟩ :: os) l h := by
  obtain ⟨h', cs', e1, e2, e3, e4, e5, e6, e7⟩ := storeCs_blk (o := o) xs 0 h (arr m g) hb' (by rw [arr_size]; omega) hv
  refine S_cp ha ⟨size, some ⟨b', o, none⟩, dLen, dCap, sLen, xs, h', hz, rfl, rfl, ?_, e1, ?_⟩
  · rw [hk]; exact hsrc
  · rw [hk]
    refine hc h' ?_ ⟨by omega, fun x hx hne => e7 x hne⟩ e6
    have : cs' = arr m fun j => if o ≤ j ∧ j < o + xs.length then xs.getD (j - o) undef else g j := by
      apply Array.ext_getElem?
      intro j
      by_cases hj : j < m
      · rw [arr_get hj]
        by_cases hjk : o ≤ j ∧ j < o + xs.length
        · have := e4 (j - o) (by omega)
          rw [show o + 0 + (j - o) = j by omega] at this
          rw [this, if_pos hjk]
          simp [show j - o < xs.length by omega]
        · have := e5 j (by omega)
          rw [this, if_neg hjk, arr_get hj]
      · rw [Array.getElem?_eq_none (by rw [e3, arr_size]; omega), Array.getElem?_eq_none (by rw [arr_size]; omega)]
    rw [← this]; exact e2
end Go.Eng
