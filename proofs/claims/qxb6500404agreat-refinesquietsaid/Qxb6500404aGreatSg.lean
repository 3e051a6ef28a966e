import Derived.Test.Qxb6500404aGreatSf
set_option linter.unusedVariables false
set_option linter.unusedSimpArgs false
namespace Go.Proofs.Qxb6500404aGreat
open Go.Eng Go.Bits Go.Blk HufW

theorem RSt.all {raw : ByteArray} {r : SR} {out : List Int} {s : TS} {ua ub : HC} {st : Nat} (q : RSt raw r out s ua ub st) : (r.ph = 2 ∨ r.ph = 3 ∨ r.ph = 8 → s.p % 8 = 0) ∧ (r.ph = 3 → 1 ≤ r.du ∧ r.du < 65536) ∧ (r.ph = 4 → r.ix < 273) ∧ (r.ph = 6 ∨ r.ph = 7 → 3 ≤ r.rn ∧ r.rn ≤ 10) ∧ (r.ph = 7 → r.mo ≤ 2 ∧ 1 ≤ r.ba ∧ r.ba + 2 ^ r.mo ≤ 17) := by
  rcases q with ⟨_, _, _, _, m⟩ | ⟨_, p, _⟩ | ⟨_, p, _⟩
  · exact ⟨m.p8, m.du, m.ix, m.rn, m.ba⟩
  · exact ⟨fun z => by omega, fun z => by omega, fun z => by omega, fun z => by omega, fun z => by omega⟩
  · exact ⟨fun z => by omega, fun z => by omega, fun z => by omega, fun z => by omega, fun z => by omega⟩
theorem cf_A (l : List Nat) {j : Nat} (h : j < 265) : Huf.cf (lA l) j = l.getD j 0 := by unfold Huf.cf; rw [lA_at l h, Int.toNat_natCast]
theorem cf_B (l : List Nat) (j : Nat) : Huf.cf (lB l) j = l.getD (265 + j) 0 := by unfold Huf.cf; rw [lB_at, Int.toNat_natCast]

def r00 : SR := ⟨false, 0, 0, 0, 0, 0, fun _ => 0, 0, 0, 0, 0, fun _ => 0, 0, 0, fun _ => 0, 0, 0, 0⟩
set_option maxHeartbeats 3200000 in
theorem snew_spec (h : Heap) (W : SA) (hD : W.D = h.size) (hs : Ss W) (s : TS) (rt : BitW.RT h W.T W.tb s) (ua ub : HC) (ca : CB h W.XA ua) (cb : CB h W.XB ub) :
    FC Tryz.prog 17 (#[.pointer (some ⟨W.T, 0, none⟩), .pointer (some ⟨W.XA, 0, none⟩), .pointer (some ⟨W.XB, 0, none⟩)] : Array Value) h fun rv h' => rv = .pointer (some ⟨W.D, 0, none⟩) ∧ SW h' W r00 ⟨0, 0, 0⟩ ua ub ∧ Ext (fun z => z = W.T ∨ z = W.tb) h h' := by
  refine FC_of [(0, .pointer (some ⟨W.T, 0, none⟩)), (1, .pointer (some ⟨W.XA, 0, none⟩)), (2, .pointer (some ⟨W.XB, 0, none⟩))] Tryz.func17 rfl Tryz.ntmps17 (by simp) rfl (fun R hR => ?_)
  refine V_sr T.mix (by kernel_rfl) (fun K1 hK1 => ?_)
  refine S_as rfl ?_
  refine S_nil (hK1 _ _ (V_keep [0, 1, 2] (by simp only [proj, lk, reduceIte, Nat.reduceEqDiff]; rfl) ?_)); clear hK1
  refine V_sr T.mix (by kernel_rfl) (fun K2 hK2 => ?_)
  refine S_mv rfl ?_
  refine S_mv rfl ?_
  refine S_mv rfl ?_
  refine S_bld rfl (T.bld77_0_1_2 _ _ _) ?_
  refine S_boxA rfl ?_
  generalize hh : Array.push h _ = g0
  have bt0 : B g0 h.size #[.pointer (some ⟨W.T, 0, none⟩), .pointer (some ⟨W.XA, 0, none⟩), .pointer (some ⟨W.XB, 0, none⟩), .bool false, .int .i64 0, .int .i64 0, .int .i64 0, .int .i64 0, .int .i64 0, .slice none 0 0, .int .i64 0, .int .i64 0, .int .i64 0, .int .i64 0, .slice none 0 0, .int .i64 0, .int .i64 0, .slice none 0 0, .int .i64 0, .int .i64 0, .int .i64 0] 77 := by rw [← hh]; exact B.new _ _ _
  have hEg0 : Ext (fun _ => False) h g0 := by rw [← hh]; exact Ext.push _ _ _
  have hsg0 : g0.size = h.size + 1 := by rw [← hh]; simp
  clear hh
  refine S_as rfl ?_
  refine S_nil (hK2 _ _ (V_keep [0, 7] (by simp only [proj, lk, reduceIte, Nat.reduceEqDiff]; rfl) ?_)); clear hK2
  refine V_sr T.mix (by kernel_rfl) (fun K3 hK3 => ?_)
  refine S_mv rfl ?_
  refine S_mk T.ei56 rfl rfl (by omega) (by omega) (by omega) (by omega) ?_
  rw [show ((273 : Int)).toNat = 273 from rfl, Nat.mul_one, mkZ_one]
  generalize hh : Array.push g0 _ = m1
  have ba1 : B m1 g0.size (ia 273 (fun _ => 0)) 3 := by rw [← hh]; exact B.new _ _ _
  have hEm1 : Ext (fun _ => False) g0 m1 := by rw [← hh]; exact Ext.push _ _ _
  have hsm1 : m1.size = g0.size + 1 := by rw [← hh]; simp
  clear hh
  have bs1 := bt0.ext hEm1 (fun f => f)
  try clear hokN
  have hokN : ∀ j, j < 21 → okPut m1 ⟨h.size, j, none⟩ = true := fun j hj => bs1.ok (by simpa using hj)
  rw [show g0.size = h.size + 1 by omega] at ba1
  rw [show g0.size = h.size + 1 by omega]
  refine S_nc rfl ?_
  first | refine S_fa0 T.f77_9 rfl ?_ | refine S_fa T.f77_9 rfl ?_
  refine S_st T.sz56 rfl rfl rfl rfl (by simp (disch := omega) only [hokN]) ?_
  generalize hh : putH _ _ _ = g1
  have bt1 : B g1 h.size #[.pointer (some ⟨W.T, 0, none⟩), .pointer (some ⟨W.XA, 0, none⟩), .pointer (some ⟨W.XB, 0, none⟩), .bool false, .int .i64 0, .int .i64 0, .int .i64 0, .int .i64 0, .int .i64 0, .slice (some ⟨h.size + 1, 0, none⟩) 273 273, .int .i64 0, .int .i64 0, .int .i64 0, .int .i64 0, .slice none 0 0, .int .i64 0, .int .i64 0, .slice none 0 0, .int .i64 0, .int .i64 0, .int .i64 0] 77 := by rw [← hh]; exact (bs1.put 9 _).cong (by simp)
  have hEg1 : Ext (fun b => b = h.size) m1 g1 := by rw [← hh]; exact Ext.put _ _ rfl
  have hsg1 : g1.size = m1.size := by rw [← hh]; exact size_put _ _
  clear hh
  refine S_nil (hK3 _ _ (V_keep [0, 7] (by simp only [proj, lk, reduceIte, Nat.reduceEqDiff]; rfl) ?_)); clear hK3
  refine V_sr T.mix (by kernel_rfl) (fun K4 hK4 => ?_)
  refine S_mv rfl ?_
  refine S_mk T.ei55 rfl rfl (by omega) (by omega) (by omega) (by omega) ?_
  rw [show ((16 : Int)).toNat = 16 from rfl, Nat.mul_one, mkZ_one]
  generalize hh : Array.push g1 _ = m2
  have ba2 : B m2 g1.size (arr 16 fun j => .int .u8 ((fun _ => 0 : Nat → Int) j)) 5 := by rw [← hh]; exact B.new _ _ _
  have hEm2 : Ext (fun _ => False) g1 m2 := by rw [← hh]; exact Ext.push _ _ _
  have hsm2 : m2.size = g1.size + 1 := by rw [← hh]; simp
  clear hh
  have bs2 := bt1.ext hEm2 (fun f => f)
  try clear hokN
  have hokN : ∀ j, j < 21 → okPut m2 ⟨h.size, j, none⟩ = true := fun j hj => bs2.ok (by simpa using hj)
  rw [show g1.size = h.size + 2 by omega] at ba2
  rw [show g1.size = h.size + 2 by omega]
  refine S_nc rfl ?_
  first | refine S_fa0 T.f77_14 rfl ?_ | refine S_fa T.f77_14 rfl ?_
  refine S_st T.sz55 rfl rfl rfl rfl (by simp (disch := omega) only [hokN]) ?_
  generalize hh : putH _ _ _ = g2
  have bt2 : B g2 h.size #[.pointer (some ⟨W.T, 0, none⟩), .pointer (some ⟨W.XA, 0, none⟩), .pointer (some ⟨W.XB, 0, none⟩), .bool false, .int .i64 0, .int .i64 0, .int .i64 0, .int .i64 0, .int .i64 0, .slice (some ⟨h.size + 1, 0, none⟩) 273 273, .int .i64 0, .int .i64 0, .int .i64 0, .int .i64 0, .slice (some ⟨h.size + 2, 0, none⟩) 16 16, .int .i64 0, .int .i64 0, .slice none 0 0, .int .i64 0, .int .i64 0, .int .i64 0] 77 := by rw [← hh]; exact (bs2.put 14 _).cong (by simp)
  have hEg2 : Ext (fun b => b = h.size) m2 g2 := by rw [← hh]; exact Ext.put _ _ rfl
  have hsg2 : g2.size = m2.size := by rw [← hh]; exact size_put _ _
  clear hh
  refine S_nil (hK4 _ _ (V_keep [0, 7] (by simp only [proj, lk, reduceIte, Nat.reduceEqDiff]; rfl) ?_)); clear hK4
  refine V_sr T.mix (by kernel_rfl) (fun K5 hK5 => ?_)
  refine S_mv rfl ?_
  refine S_mk T.ei55 rfl rfl (by omega) (by omega) (by omega) (by omega) ?_
  rw [show ((256 : Int)).toNat = 256 from rfl, Nat.mul_one, mkZ_one]
  generalize hh : Array.push g2 _ = m3
  have ba3 : B m3 g2.size (arr 256 fun j => .int .u8 ((fun _ => 0 : Nat → Int) j)) 5 := by rw [← hh]; exact B.new _ _ _
  have hEm3 : Ext (fun _ => False) g2 m3 := by rw [← hh]; exact Ext.push _ _ _
  have hsm3 : m3.size = g2.size + 1 := by rw [← hh]; simp
  clear hh
  have bs3 := bt2.ext hEm3 (fun f => f)
  try clear hokN
  have hokN : ∀ j, j < 21 → okPut m3 ⟨h.size, j, none⟩ = true := fun j hj => bs3.ok (by simpa using hj)
  rw [show g2.size = h.size + 3 by omega] at ba3
  rw [show g2.size = h.size + 3 by omega]
  refine S_nc rfl ?_
  first | refine S_fa0 T.f77_17 rfl ?_ | refine S_fa T.f77_17 rfl ?_
  refine S_st T.sz55 rfl rfl rfl rfl (by simp (disch := omega) only [hokN]) ?_
  generalize hh : putH _ _ _ = g3
  have bt3 : B g3 h.size #[.pointer (some ⟨W.T, 0, none⟩), .pointer (some ⟨W.XA, 0, none⟩), .pointer (some ⟨W.XB, 0, none⟩), .bool false, .int .i64 0, .int .i64 0, .int .i64 0, .int .i64 0, .int .i64 0, .slice (some ⟨h.size + 1, 0, none⟩) 273 273, .int .i64 0, .int .i64 0, .int .i64 0, .int .i64 0, .slice (some ⟨h.size + 2, 0, none⟩) 16 16, .int .i64 0, .int .i64 0, .slice (some ⟨h.size + 3, 0, none⟩) 256 256, .int .i64 0, .int .i64 0, .int .i64 0] 77 := by rw [← hh]; exact (bs3.put 17 _).cong (by simp)
  have hEg3 : Ext (fun b => b = h.size) m3 g3 := by rw [← hh]; exact Ext.put _ _ rfl
  have hsg3 : g3.size = m3.size := by rw [← hh]; exact size_put _ _
  clear hh
  refine S_nil (hK5 _ _ (V_keep [0, 7] (by simp only [proj, lk, reduceIte, Nat.reduceEqDiff]; rfl) ?_)); clear hK5
  refine V_sr T.mix (by kernel_rfl) (fun K6 hK6 => ?_)
  refine S_mv rfl ?_
  refine S_call T.hb24 rfl ?_
  have hEx : Ext (fun _ => False) h g3 := ((((((hEg0).trans hEm1).step hEg1 (fun b hb e => by omega)).trans hEm2).step hEg2 (fun b hb e => by omega)).trans hEm3).step hEg3 (fun b hb e => by omega)
  refine FC.mono (BitW.reset_spec g3 W.T W.tb s (rt.ext hEx (fun f => f) (fun f => f))) ?_
  rintro v' g4 ⟨rfl, rt4, hX4⟩
  have q1 := hs.l1
  have q2 := hs.l2
  have q3 := hs.l3
  refine S_nil (hK6 _ _ (V_keep [7] (by simp only [proj, lk, reduceIte, Nat.reduceEqDiff]; rfl) ?_)); clear hK6
  refine V_sr T.mix (by kernel_rfl) (fun K7 hK7 => ?_)
  refine S_mv rfl ?_
  refine S_as rfl ?_
  refine S_nil (hK7 _ _ (V_keep [6] (by simp only [proj, lk, reduceIte, Nat.reduceEqDiff]; rfl) ?_)); clear hK7
  refine V_ret ?_
  refine hR _ _ (ret1 rfl rfl ?_)
  have hpc : dcs W r00 = #[.pointer (some ⟨W.T, 0, none⟩), .pointer (some ⟨W.XA, 0, none⟩), .pointer (some ⟨W.XB, 0, none⟩), .bool false, .int .i64 0, .int .i64 0, .int .i64 0, .int .i64 0, .int .i64 0, .slice (some ⟨h.size + 1, 0, none⟩) 273 273, .int .i64 0, .int .i64 0, .int .i64 0, .int .i64 0, .slice (some ⟨h.size + 2, 0, none⟩) 16 16, .int .i64 0, .int .i64 0, .slice (some ⟨h.size + 3, 0, none⟩) 256 256, .int .i64 0, .int .i64 0, .int .i64 0] := by unfold dcs; rw [hD]; rfl
  rw [← hpc] at bt3
  refine ⟨by rw [hD], ⟨hs, ?_, ?_, ?_, ?_, rt4, (ca.ext hEx (fun z e f => f)).ext hX4 (fun z e y => by rw [ct_def] at e; omega), (cb.ext hEx (fun z e f => f)).ext hX4 (fun z e y => by rw [ct_def] at e; omega)⟩, (hEx.mono fun _ f => f.elim).trans hX4⟩
  · rw [hD]; exact bt3.ext hX4 (fun e => by omega)
  · rw [hD]; exact (((((ba1.ext hEg1 (fun e => by omega)).ext hEm2 (fun f => f)).ext hEg2 (fun e => by omega)).ext hEm3 (fun f => f)).ext hEg3 (fun e => by omega)).ext hX4 (fun e => by omega)
  · rw [hD]; exact (((ba2.ext hEg2 (fun e => by omega)).ext hEm3 (fun f => f)).ext hEg3 (fun e => by omega)).ext hX4 (fun e => by omega)
  · rw [hD]; exact (ba3.ext hEg3 (fun e => by omega)).ext hX4 (fun e => by omega)
end Go.Proofs.Qxb6500404aGreat
