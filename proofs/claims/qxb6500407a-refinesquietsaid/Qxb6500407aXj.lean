import Derived.Test.Qxb6500407aXi
import Derived.Test.Qxb6500407aHj
set_option linter.unusedVariables false
set_option linter.unusedSimpArgs false
namespace Go.Proofs.Qxb6500407a
open Go.Eng Go.Huf

def HC.z : HC := ⟨0, fun _ => 0, fun _ => 0, fun _ => 0, fun _ => 0, 0, fun _ => 0, fun _ => 0, fun _ => 0, fun _ => 0, fun _ => 0, fun _ => 0, 0⟩
theorem CK.z : CK HC.z (fun _ => 0) := ⟨by simp [HC.z], fun j hj => by simp [HC.z] at hj, fun j hj => by simp [HC.z] at hj, TB.nil (fun _ _ => rfl) rfl, Lw.nil⟩
theorem iz0 (n : Nat) : (ia n fun _ => 0) = iz n (fun _ => 0) := rfl
theorem fc_one (lf : Nat → Nat) (N : Nat) : fc lf N 1 = 0 := rfl
/-- canon's last number -/
theorem fc_top {lf : Nat → Nat} {N : Nat} (h : Ln lf N) : fc lf N 10 + cn lf N 10 ≤ 1024 := h.fc_le (by omega) (by omega)
theorem ct_zero (p : Nat → Prop) [DecidablePred p] : ct p 0 = 0 := rfl
set_option maxHeartbeats 1600000 in
theorem hnew_spec (h : Heap) :
    FC Try.prog 7 (#[] : Array Value) h fun rv h' => rv = .pointer (some ⟨h.size, 0, none⟩) ∧ CB h' h.size HC.z ∧ Ext (fun _ => False) h h' := by
  refine FC_of [] Try.func7 rfl Try.ntmps7 (by simp) rfl (fun R hR => ?_)
  refine V_sr T.mix (by kernel_rfl) (fun K1 hK1 => ?_)
  refine S_as rfl ?_
  refine S_nil (hK1 _ _ (V_keep [] (by simp only [proj, lk, reduceIte, Nat.reduceEqDiff]; rfl) ?_)); clear hK1
  refine V_sr T.mix (by kernel_rfl) (fun K2 hK2 => ?_)
  refine S_bld rfl (T.bld42) ?_
  refine S_boxA rfl ?_
  generalize hh : Array.push h _ = h1
  have bx : B h1 h.size #[.int .i64 0, .slice none 0 0, .slice none 0 0, .slice none 0 0, .slice none 0 0, .int .i64 0, .slice none 0 0, .slice none 0 0, .slice none 0 0, .slice none 0 0, .slice none 0 0, .slice none 0 0, .int .i64 0] 42 := by rw [← hh]; exact B.new _ _ _
  have hEh1 : Ext (fun _ => False) h h1 := by rw [← hh]; exact Ext.push _ _ _
  have hsh1 : h1.size = h.size + 1 := by rw [← hh]; simp
  clear hh
  refine S_as rfl ?_
  refine S_nil (hK2 _ _ (V_keep [1] (by simp only [proj, lk, reduceIte, Nat.reduceEqDiff]; rfl) ?_)); clear hK2
  refine V_sr T.mix (by kernel_rfl) (fun K3 hK3 => ?_)
  refine S_mv rfl ?_
  refine S_mk T.ei32 rfl rfl (by omega) (by omega) (by omega) (by omega) ?_
  rw [show ((265 : Int)).toNat = 265 from rfl, Nat.mul_one, mkZ_one]
  generalize hh : Array.push h1 _ = m0
  have ba0 : B m0 h1.size (ia 265 (fun _ => 0)) 3 := by rw [← hh]; exact B.new _ _ _
  have hEm0 : Ext (fun _ => False) h1 m0 := by rw [← hh]; exact Ext.push _ _ _
  have hsm0 : m0.size = h1.size + 1 := by rw [← hh]; simp
  clear hh
  have bs0 := bx.ext hEm0 (fun f => f)
  have hokN : ∀ j, j < 13 → okPut m0 ⟨h.size, j, none⟩ = true := fun j hj => bs0.ok (by simpa using hj)
  rw [show h1.size = h.size + 1 by omega] at ba0
  rw [show h1.size = h.size + 1 by omega]
  refine S_nc rfl ?_
  first | refine S_fa0 T.f42_1 rfl ?_ | refine S_fa T.f42_1 rfl ?_
  refine S_st T.sz32 rfl rfl rfl rfl (by simp (disch := omega) only [hokN]) ?_
  generalize hh : putH _ _ _ = g1
  have bt1 : B g1 h.size #[.int .i64 0, .slice (some ⟨h.size + 1, 0, none⟩) 265 265, .slice none 0 0, .slice none 0 0, .slice none 0 0, .int .i64 0, .slice none 0 0, .slice none 0 0, .slice none 0 0, .slice none 0 0, .slice none 0 0, .slice none 0 0, .int .i64 0] 42 := by rw [← hh]; exact (bs0.put 1 _).cong (by simp)
  have hEg1 : Ext (fun b => b = h.size) m0 g1 := by rw [← hh]; exact Ext.put _ _ rfl
  have hsg1 : g1.size = m0.size := by rw [← hh]; exact size_put _ _
  clear hh
  refine S_nil (hK3 _ _ (V_keep [1] (by simp only [proj, lk, reduceIte, Nat.reduceEqDiff]; rfl) ?_)); clear hK3
  refine V_sr T.mix (by kernel_rfl) (fun K4 hK4 => ?_)
  refine S_mv rfl ?_
  refine S_mk T.ei32 rfl rfl (by omega) (by omega) (by omega) (by omega) ?_
  rw [show ((265 : Int)).toNat = 265 from rfl, Nat.mul_one, mkZ_one]
  generalize hh : Array.push g1 _ = m1
  have ba1 : B m1 g1.size (ia 265 (fun _ => 0)) 3 := by rw [← hh]; exact B.new _ _ _
  have hEm1 : Ext (fun _ => False) g1 m1 := by rw [← hh]; exact Ext.push _ _ _
  have hsm1 : m1.size = g1.size + 1 := by rw [← hh]; simp
  clear hh
  have bs1 := bt1.ext hEm1 (fun f => f)
  have hokN : ∀ j, j < 13 → okPut m1 ⟨h.size, j, none⟩ = true := fun j hj => bs1.ok (by simpa using hj)
  rw [show g1.size = h.size + 2 by omega] at ba1
  rw [show g1.size = h.size + 2 by omega]
  refine S_nc rfl ?_
  first | refine S_fa0 T.f42_2 rfl ?_ | refine S_fa T.f42_2 rfl ?_
  refine S_st T.sz32 rfl rfl rfl rfl (by simp (disch := omega) only [hokN]) ?_
  generalize hh : putH _ _ _ = g2
  have bt2 : B g2 h.size #[.int .i64 0, .slice (some ⟨h.size + 1, 0, none⟩) 265 265, .slice (some ⟨h.size + 2, 0, none⟩) 265 265, .slice none 0 0, .slice none 0 0, .int .i64 0, .slice none 0 0, .slice none 0 0, .slice none 0 0, .slice none 0 0, .slice none 0 0, .slice none 0 0, .int .i64 0] 42 := by rw [← hh]; exact (bs1.put 2 _).cong (by simp)
  have hEg2 : Ext (fun b => b = h.size) m1 g2 := by rw [← hh]; exact Ext.put _ _ rfl
  have hsg2 : g2.size = m1.size := by rw [← hh]; exact size_put _ _
  clear hh
  refine S_nil (hK4 _ _ (V_keep [1] (by simp only [proj, lk, reduceIte, Nat.reduceEqDiff]; rfl) ?_)); clear hK4
  refine V_sr T.mix (by kernel_rfl) (fun K5 hK5 => ?_)
  refine S_mv rfl ?_
  refine S_mk T.ei32 rfl rfl (by omega) (by omega) (by omega) (by omega) ?_
  rw [show ((64 : Int)).toNat = 64 from rfl, Nat.mul_one, mkZ_one]
  generalize hh : Array.push g2 _ = m2
  have ba2 : B m2 g2.size (ia 64 (fun _ => 0)) 3 := by rw [← hh]; exact B.new _ _ _
  have hEm2 : Ext (fun _ => False) g2 m2 := by rw [← hh]; exact Ext.push _ _ _
  have hsm2 : m2.size = g2.size + 1 := by rw [← hh]; simp
  clear hh
  have bs2 := bt2.ext hEm2 (fun f => f)
  have hokN : ∀ j, j < 13 → okPut m2 ⟨h.size, j, none⟩ = true := fun j hj => bs2.ok (by simpa using hj)
  rw [show g2.size = h.size + 3 by omega] at ba2
  rw [show g2.size = h.size + 3 by omega]
  refine S_nc rfl ?_
  first | refine S_fa0 T.f42_3 rfl ?_ | refine S_fa T.f42_3 rfl ?_
  refine S_st T.sz32 rfl rfl rfl rfl (by simp (disch := omega) only [hokN]) ?_
  generalize hh : putH _ _ _ = g3
  have bt3 : B g3 h.size #[.int .i64 0, .slice (some ⟨h.size + 1, 0, none⟩) 265 265, .slice (some ⟨h.size + 2, 0, none⟩) 265 265, .slice (some ⟨h.size + 3, 0, none⟩) 64 64, .slice none 0 0, .int .i64 0, .slice none 0 0, .slice none 0 0, .slice none 0 0, .slice none 0 0, .slice none 0 0, .slice none 0 0, .int .i64 0] 42 := by rw [← hh]; exact (bs2.put 3 _).cong (by simp)
  have hEg3 : Ext (fun b => b = h.size) m2 g3 := by rw [← hh]; exact Ext.put _ _ rfl
  have hsg3 : g3.size = m2.size := by rw [← hh]; exact size_put _ _
  clear hh
  refine S_nil (hK5 _ _ (V_keep [1] (by simp only [proj, lk, reduceIte, Nat.reduceEqDiff]; rfl) ?_)); clear hK5
  refine V_sr T.mix (by kernel_rfl) (fun K6 hK6 => ?_)
  refine S_mv rfl ?_
  refine S_mk T.ei32 rfl rfl (by omega) (by omega) (by omega) (by omega) ?_
  rw [show ((1024 : Int)).toNat = 1024 from rfl, Nat.mul_one, mkZ_one]
  generalize hh : Array.push g3 _ = m3
  have ba3 : B m3 g3.size (ia 1024 (fun _ => 0)) 3 := by rw [← hh]; exact B.new _ _ _
  have hEm3 : Ext (fun _ => False) g3 m3 := by rw [← hh]; exact Ext.push _ _ _
  have hsm3 : m3.size = g3.size + 1 := by rw [← hh]; simp
  clear hh
  have bs3 := bt3.ext hEm3 (fun f => f)
  have hokN : ∀ j, j < 13 → okPut m3 ⟨h.size, j, none⟩ = true := fun j hj => bs3.ok (by simpa using hj)
  rw [show g3.size = h.size + 4 by omega] at ba3
  rw [show g3.size = h.size + 4 by omega]
  refine S_nc rfl ?_
  first | refine S_fa0 T.f42_4 rfl ?_ | refine S_fa T.f42_4 rfl ?_
  refine S_st T.sz32 rfl rfl rfl rfl (by simp (disch := omega) only [hokN]) ?_
  generalize hh : putH _ _ _ = g4
  have bt4 : B g4 h.size #[.int .i64 0, .slice (some ⟨h.size + 1, 0, none⟩) 265 265, .slice (some ⟨h.size + 2, 0, none⟩) 265 265, .slice (some ⟨h.size + 3, 0, none⟩) 64 64, .slice (some ⟨h.size + 4, 0, none⟩) 1024 1024, .int .i64 0, .slice none 0 0, .slice none 0 0, .slice none 0 0, .slice none 0 0, .slice none 0 0, .slice none 0 0, .int .i64 0] 42 := by rw [← hh]; exact (bs3.put 4 _).cong (by simp)
  have hEg4 : Ext (fun b => b = h.size) m3 g4 := by rw [← hh]; exact Ext.put _ _ rfl
  have hsg4 : g4.size = m3.size := by rw [← hh]; exact size_put _ _
  clear hh
  refine S_nil (hK6 _ _ (V_keep [1] (by simp only [proj, lk, reduceIte, Nat.reduceEqDiff]; rfl) ?_)); clear hK6
  refine V_sr T.mix (by kernel_rfl) (fun K7 hK7 => ?_)
  refine S_mv rfl ?_
  refine S_mk T.ei32 rfl rfl (by omega) (by omega) (by omega) (by omega) ?_
  rw [show ((529 : Int)).toNat = 529 from rfl, Nat.mul_one, mkZ_one]
  generalize hh : Array.push g4 _ = m4
  have ba4 : B m4 g4.size (ia 529 (fun _ => 0)) 3 := by rw [← hh]; exact B.new _ _ _
  have hEm4 : Ext (fun _ => False) g4 m4 := by rw [← hh]; exact Ext.push _ _ _
  have hsm4 : m4.size = g4.size + 1 := by rw [← hh]; simp
  clear hh
  have bs4 := bt4.ext hEm4 (fun f => f)
  have hokN : ∀ j, j < 13 → okPut m4 ⟨h.size, j, none⟩ = true := fun j hj => bs4.ok (by simpa using hj)
  rw [show g4.size = h.size + 5 by omega] at ba4
  rw [show g4.size = h.size + 5 by omega]
  refine S_nc rfl ?_
  first | refine S_fa0 T.f42_6 rfl ?_ | refine S_fa T.f42_6 rfl ?_
  refine S_st T.sz32 rfl rfl rfl rfl (by simp (disch := omega) only [hokN]) ?_
  generalize hh : putH _ _ _ = g5
  have bt5 : B g5 h.size #[.int .i64 0, .slice (some ⟨h.size + 1, 0, none⟩) 265 265, .slice (some ⟨h.size + 2, 0, none⟩) 265 265, .slice (some ⟨h.size + 3, 0, none⟩) 64 64, .slice (some ⟨h.size + 4, 0, none⟩) 1024 1024, .int .i64 0, .slice (some ⟨h.size + 5, 0, none⟩) 529 529, .slice none 0 0, .slice none 0 0, .slice none 0 0, .slice none 0 0, .slice none 0 0, .int .i64 0] 42 := by rw [← hh]; exact (bs4.put 6 _).cong (by simp)
  have hEg5 : Ext (fun b => b = h.size) m4 g5 := by rw [← hh]; exact Ext.put _ _ rfl
  have hsg5 : g5.size = m4.size := by rw [← hh]; exact size_put _ _
  clear hh
  refine S_nil (hK7 _ _ (V_keep [1] (by simp only [proj, lk, reduceIte, Nat.reduceEqDiff]; rfl) ?_)); clear hK7
  refine V_sr T.mix (by kernel_rfl) (fun K8 hK8 => ?_)
  refine S_mv rfl ?_
  refine S_mk T.ei32 rfl rfl (by omega) (by omega) (by omega) (by omega) ?_
  rw [show ((529 : Int)).toNat = 529 from rfl, Nat.mul_one, mkZ_one]
  generalize hh : Array.push g5 _ = m5
  have ba5 : B m5 g5.size (ia 529 (fun _ => 0)) 3 := by rw [← hh]; exact B.new _ _ _
  have hEm5 : Ext (fun _ => False) g5 m5 := by rw [← hh]; exact Ext.push _ _ _
  have hsm5 : m5.size = g5.size + 1 := by rw [← hh]; simp
  clear hh
  have bs5 := bt5.ext hEm5 (fun f => f)
  have hokN : ∀ j, j < 13 → okPut m5 ⟨h.size, j, none⟩ = true := fun j hj => bs5.ok (by simpa using hj)
  rw [show g5.size = h.size + 6 by omega] at ba5
  rw [show g5.size = h.size + 6 by omega]
  refine S_nc rfl ?_
  first | refine S_fa0 T.f42_7 rfl ?_ | refine S_fa T.f42_7 rfl ?_
  refine S_st T.sz32 rfl rfl rfl rfl (by simp (disch := omega) only [hokN]) ?_
  generalize hh : putH _ _ _ = g6
  have bt6 : B g6 h.size #[.int .i64 0, .slice (some ⟨h.size + 1, 0, none⟩) 265 265, .slice (some ⟨h.size + 2, 0, none⟩) 265 265, .slice (some ⟨h.size + 3, 0, none⟩) 64 64, .slice (some ⟨h.size + 4, 0, none⟩) 1024 1024, .int .i64 0, .slice (some ⟨h.size + 5, 0, none⟩) 529 529, .slice (some ⟨h.size + 6, 0, none⟩) 529 529, .slice none 0 0, .slice none 0 0, .slice none 0 0, .slice none 0 0, .int .i64 0] 42 := by rw [← hh]; exact (bs5.put 7 _).cong (by simp)
  have hEg6 : Ext (fun b => b = h.size) m5 g6 := by rw [← hh]; exact Ext.put _ _ rfl
  have hsg6 : g6.size = m5.size := by rw [← hh]; exact size_put _ _
  clear hh
  refine S_nil (hK8 _ _ (V_keep [1] (by simp only [proj, lk, reduceIte, Nat.reduceEqDiff]; rfl) ?_)); clear hK8
  refine V_sr T.mix (by kernel_rfl) (fun K9 hK9 => ?_)
  refine S_mv rfl ?_
  refine S_mk T.ei32 rfl rfl (by omega) (by omega) (by omega) (by omega) ?_
  rw [show ((529 : Int)).toNat = 529 from rfl, Nat.mul_one, mkZ_one]
  generalize hh : Array.push g6 _ = m6
  have ba6 : B m6 g6.size (ia 529 (fun _ => 0)) 3 := by rw [← hh]; exact B.new _ _ _
  have hEm6 : Ext (fun _ => False) g6 m6 := by rw [← hh]; exact Ext.push _ _ _
  have hsm6 : m6.size = g6.size + 1 := by rw [← hh]; simp
  clear hh
  have bs6 := bt6.ext hEm6 (fun f => f)
  have hokN : ∀ j, j < 13 → okPut m6 ⟨h.size, j, none⟩ = true := fun j hj => bs6.ok (by simpa using hj)
  rw [show g6.size = h.size + 7 by omega] at ba6
  rw [show g6.size = h.size + 7 by omega]
  refine S_nc rfl ?_
  first | refine S_fa0 T.f42_8 rfl ?_ | refine S_fa T.f42_8 rfl ?_
  refine S_st T.sz32 rfl rfl rfl rfl (by simp (disch := omega) only [hokN]) ?_
  generalize hh : putH _ _ _ = g7
  have bt7 : B g7 h.size #[.int .i64 0, .slice (some ⟨h.size + 1, 0, none⟩) 265 265, .slice (some ⟨h.size + 2, 0, none⟩) 265 265, .slice (some ⟨h.size + 3, 0, none⟩) 64 64, .slice (some ⟨h.size + 4, 0, none⟩) 1024 1024, .int .i64 0, .slice (some ⟨h.size + 5, 0, none⟩) 529 529, .slice (some ⟨h.size + 6, 0, none⟩) 529 529, .slice (some ⟨h.size + 7, 0, none⟩) 529 529, .slice none 0 0, .slice none 0 0, .slice none 0 0, .int .i64 0] 42 := by rw [← hh]; exact (bs6.put 8 _).cong (by simp)
  have hEg7 : Ext (fun b => b = h.size) m6 g7 := by rw [← hh]; exact Ext.put _ _ rfl
  have hsg7 : g7.size = m6.size := by rw [← hh]; exact size_put _ _
  clear hh
  refine S_nil (hK9 _ _ (V_keep [1] (by simp only [proj, lk, reduceIte, Nat.reduceEqDiff]; rfl) ?_)); clear hK9
  refine V_sr T.mix (by kernel_rfl) (fun K10 hK10 => ?_)
  refine S_mv rfl ?_
  refine S_mk T.ei32 rfl rfl (by omega) (by omega) (by omega) (by omega) ?_
  rw [show ((529 : Int)).toNat = 529 from rfl, Nat.mul_one, mkZ_one]
  generalize hh : Array.push g7 _ = m7
  have ba7 : B m7 g7.size (ia 529 (fun _ => 0)) 3 := by rw [← hh]; exact B.new _ _ _
  have hEm7 : Ext (fun _ => False) g7 m7 := by rw [← hh]; exact Ext.push _ _ _
  have hsm7 : m7.size = g7.size + 1 := by rw [← hh]; simp
  clear hh
  have bs7 := bt7.ext hEm7 (fun f => f)
  have hokN : ∀ j, j < 13 → okPut m7 ⟨h.size, j, none⟩ = true := fun j hj => bs7.ok (by simpa using hj)
  rw [show g7.size = h.size + 8 by omega] at ba7
  rw [show g7.size = h.size + 8 by omega]
  refine S_nc rfl ?_
  first | refine S_fa0 T.f42_9 rfl ?_ | refine S_fa T.f42_9 rfl ?_
  refine S_st T.sz32 rfl rfl rfl rfl (by simp (disch := omega) only [hokN]) ?_
  generalize hh : putH _ _ _ = g8
  have bt8 : B g8 h.size #[.int .i64 0, .slice (some ⟨h.size + 1, 0, none⟩) 265 265, .slice (some ⟨h.size + 2, 0, none⟩) 265 265, .slice (some ⟨h.size + 3, 0, none⟩) 64 64, .slice (some ⟨h.size + 4, 0, none⟩) 1024 1024, .int .i64 0, .slice (some ⟨h.size + 5, 0, none⟩) 529 529, .slice (some ⟨h.size + 6, 0, none⟩) 529 529, .slice (some ⟨h.size + 7, 0, none⟩) 529 529, .slice (some ⟨h.size + 8, 0, none⟩) 529 529, .slice none 0 0, .slice none 0 0, .int .i64 0] 42 := by rw [← hh]; exact (bs7.put 9 _).cong (by simp)
  have hEg8 : Ext (fun b => b = h.size) m7 g8 := by rw [← hh]; exact Ext.put _ _ rfl
  have hsg8 : g8.size = m7.size := by rw [← hh]; exact size_put _ _
  clear hh
  refine S_nil (hK10 _ _ (V_keep [1] (by simp only [proj, lk, reduceIte, Nat.reduceEqDiff]; rfl) ?_)); clear hK10
  refine V_sr T.mix (by kernel_rfl) (fun K11 hK11 => ?_)
  refine S_mv rfl ?_
  refine S_mk T.ei32 rfl rfl (by omega) (by omega) (by omega) (by omega) ?_
  rw [show ((529 : Int)).toNat = 529 from rfl, Nat.mul_one, mkZ_one]
  generalize hh : Array.push g8 _ = m8
  have ba8 : B m8 g8.size (ia 529 (fun _ => 0)) 3 := by rw [← hh]; exact B.new _ _ _
  have hEm8 : Ext (fun _ => False) g8 m8 := by rw [← hh]; exact Ext.push _ _ _
  have hsm8 : m8.size = g8.size + 1 := by rw [← hh]; simp
  clear hh
  have bs8 := bt8.ext hEm8 (fun f => f)
  have hokN : ∀ j, j < 13 → okPut m8 ⟨h.size, j, none⟩ = true := fun j hj => bs8.ok (by simpa using hj)
  rw [show g8.size = h.size + 9 by omega] at ba8
  rw [show g8.size = h.size + 9 by omega]
  refine S_nc rfl ?_
  first | refine S_fa0 T.f42_10 rfl ?_ | refine S_fa T.f42_10 rfl ?_
  refine S_st T.sz32 rfl rfl rfl rfl (by simp (disch := omega) only [hokN]) ?_
  generalize hh : putH _ _ _ = g9
  have bt9 : B g9 h.size #[.int .i64 0, .slice (some ⟨h.size + 1, 0, none⟩) 265 265, .slice (some ⟨h.size + 2, 0, none⟩) 265 265, .slice (some ⟨h.size + 3, 0, none⟩) 64 64, .slice (some ⟨h.size + 4, 0, none⟩) 1024 1024, .int .i64 0, .slice (some ⟨h.size + 5, 0, none⟩) 529 529, .slice (some ⟨h.size + 6, 0, none⟩) 529 529, .slice (some ⟨h.size + 7, 0, none⟩) 529 529, .slice (some ⟨h.size + 8, 0, none⟩) 529 529, .slice (some ⟨h.size + 9, 0, none⟩) 529 529, .slice none 0 0, .int .i64 0] 42 := by rw [← hh]; exact (bs8.put 10 _).cong (by simp)
  have hEg9 : Ext (fun b => b = h.size) m8 g9 := by rw [← hh]; exact Ext.put _ _ rfl
  have hsg9 : g9.size = m8.size := by rw [← hh]; exact size_put _ _
  clear hh
  refine S_nil (hK11 _ _ (V_keep [1] (by simp only [proj, lk, reduceIte, Nat.reduceEqDiff]; rfl) ?_)); clear hK11
  refine V_sr T.mix (by kernel_rfl) (fun K12 hK12 => ?_)
  refine S_mv rfl ?_
  refine S_mk T.ei32 rfl rfl (by omega) (by omega) (by omega) (by omega) ?_
  rw [show ((265 : Int)).toNat = 265 from rfl, Nat.mul_one, mkZ_one]
  generalize hh : Array.push g9 _ = m9
  have ba9 : B m9 g9.size (ia 265 (fun _ => 0)) 3 := by rw [← hh]; exact B.new _ _ _
  have hEm9 : Ext (fun _ => False) g9 m9 := by rw [← hh]; exact Ext.push _ _ _
  have hsm9 : m9.size = g9.size + 1 := by rw [← hh]; simp
  clear hh
  have bs9 := bt9.ext hEm9 (fun f => f)
  have hokN : ∀ j, j < 13 → okPut m9 ⟨h.size, j, none⟩ = true := fun j hj => bs9.ok (by simpa using hj)
  rw [show g9.size = h.size + 10 by omega] at ba9
  rw [show g9.size = h.size + 10 by omega]
  refine S_nc rfl ?_
  first | refine S_fa0 T.f42_11 rfl ?_ | refine S_fa T.f42_11 rfl ?_
  refine S_st T.sz32 rfl rfl rfl rfl (by simp (disch := omega) only [hokN]) ?_
  generalize hh : putH _ _ _ = g10
  have bt10 : B g10 h.size #[.int .i64 0, .slice (some ⟨h.size + 1, 0, none⟩) 265 265, .slice (some ⟨h.size + 2, 0, none⟩) 265 265, .slice (some ⟨h.size + 3, 0, none⟩) 64 64, .slice (some ⟨h.size + 4, 0, none⟩) 1024 1024, .int .i64 0, .slice (some ⟨h.size + 5, 0, none⟩) 529 529, .slice (some ⟨h.size + 6, 0, none⟩) 529 529, .slice (some ⟨h.size + 7, 0, none⟩) 529 529, .slice (some ⟨h.size + 8, 0, none⟩) 529 529, .slice (some ⟨h.size + 9, 0, none⟩) 529 529, .slice (some ⟨h.size + 10, 0, none⟩) 265 265, .int .i64 0] 42 := by rw [← hh]; exact (bs9.put 11 _).cong (by simp)
  have hEg10 : Ext (fun b => b = h.size) m9 g10 := by rw [← hh]; exact Ext.put _ _ rfl
  have hsg10 : g10.size = m9.size := by rw [← hh]; exact size_put _ _
  clear hh
  refine S_nil (hK12 _ _ (V_keep [1] (by simp only [proj, lk, reduceIte, Nat.reduceEqDiff]; rfl) ?_)); clear hK12
  refine V_sr T.mix (by kernel_rfl) (fun K13 hK13 => ?_)
  refine S_mv rfl ?_
  refine S_as rfl ?_
  refine S_nil (hK13 _ _ (V_keep [0] (by simp only [proj, lk, reduceIte, Nat.reduceEqDiff]; rfl) ?_)); clear hK13
  refine V_ret ?_
  refine hR _ _ (ret1 rfl rfl ?_)
  exact ⟨rfl, ⟨bt10, ((((((((((((((((((ba0.ext hEg1 (fun e => by omega)).ext hEm1 (fun f => f)).ext hEg2 (fun e => by omega)).ext hEm2 (fun f => f)).ext hEg3 (fun e => by omega)).ext hEm3 (fun f => f)).ext hEg4 (fun e => by omega)).ext hEm4 (fun f => f)).ext hEg5 (fun e => by omega)).ext hEm5 (fun f => f)).ext hEg6 (fun e => by omega)).ext hEm6 (fun f => f)).ext hEg7 (fun e => by omega)).ext hEm7 (fun f => f)).ext hEg8 (fun e => by omega)).ext hEm8 (fun f => f)).ext hEg9 (fun e => by omega)).ext hEm9 (fun f => f)).ext hEg10 (fun e => by omega), ((((((((((((((((ba1.ext hEg2 (fun e => by omega)).ext hEm2 (fun f => f)).ext hEg3 (fun e => by omega)).ext hEm3 (fun f => f)).ext hEg4 (fun e => by omega)).ext hEm4 (fun f => f)).ext hEg5 (fun e => by omega)).ext hEm5 (fun f => f)).ext hEg6 (fun e => by omega)).ext hEm6 (fun f => f)).ext hEg7 (fun e => by omega)).ext hEm7 (fun f => f)).ext hEg8 (fun e => by omega)).ext hEm8 (fun f => f)).ext hEg9 (fun e => by omega)).ext hEm9 (fun f => f)).ext hEg10 (fun e => by omega), ((((((((((((((ba2.ext hEg3 (fun e => by omega)).ext hEm3 (fun f => f)).ext hEg4 (fun e => by omega)).ext hEm4 (fun f => f)).ext hEg5 (fun e => by omega)).ext hEm5 (fun f => f)).ext hEg6 (fun e => by omega)).ext hEm6 (fun f => f)).ext hEg7 (fun e => by omega)).ext hEm7 (fun f => f)).ext hEg8 (fun e => by omega)).ext hEm8 (fun f => f)).ext hEg9 (fun e => by omega)).ext hEm9 (fun f => f)).ext hEg10 (fun e => by omega), ((((((((((((ba3.ext hEg4 (fun e => by omega)).ext hEm4 (fun f => f)).ext hEg5 (fun e => by omega)).ext hEm5 (fun f => f)).ext hEg6 (fun e => by omega)).ext hEm6 (fun f => f)).ext hEg7 (fun e => by omega)).ext hEm7 (fun f => f)).ext hEg8 (fun e => by omega)).ext hEm8 (fun f => f)).ext hEg9 (fun e => by omega)).ext hEm9 (fun f => f)).ext hEg10 (fun e => by omega), ((((((((((ba4.ext hEg5 (fun e => by omega)).ext hEm5 (fun f => f)).ext hEg6 (fun e => by omega)).ext hEm6 (fun f => f)).ext hEg7 (fun e => by omega)).ext hEm7 (fun f => f)).ext hEg8 (fun e => by omega)).ext hEm8 (fun f => f)).ext hEg9 (fun e => by omega)).ext hEm9 (fun f => f)).ext hEg10 (fun e => by omega), ((((((((ba5.ext hEg6 (fun e => by omega)).ext hEm6 (fun f => f)).ext hEg7 (fun e => by omega)).ext hEm7 (fun f => f)).ext hEg8 (fun e => by omega)).ext hEm8 (fun f => f)).ext hEg9 (fun e => by omega)).ext hEm9 (fun f => f)).ext hEg10 (fun e => by omega), ((((((ba6.ext hEg7 (fun e => by omega)).ext hEm7 (fun f => f)).ext hEg8 (fun e => by omega)).ext hEm8 (fun f => f)).ext hEg9 (fun e => by omega)).ext hEm9 (fun f => f)).ext hEg10 (fun e => by omega), ((((ba7.ext hEg8 (fun e => by omega)).ext hEm8 (fun f => f)).ext hEg9 (fun e => by omega)).ext hEm9 (fun f => f)).ext hEg10 (fun e => by omega), ((ba8.ext hEg9 (fun e => by omega)).ext hEm9 (fun f => f)).ext hEg10 (fun e => by omega), ba9.ext hEg10 (fun e => by omega)⟩, ((((((((((((((((((((hEh1).trans hEm0).step hEg1 (fun b hb e => by omega)).trans hEm1).step hEg2 (fun b hb e => by omega)).trans hEm2).step hEg3 (fun b hb e => by omega)).trans hEm3).step hEg4 (fun b hb e => by omega)).trans hEm4).step hEg5 (fun b hb e => by omega)).trans hEm5).step hEg6 (fun b hb e => by omega)).trans hEm6).step hEg7 (fun b hb e => by omega)).trans hEm7).step hEg8 (fun b hb e => by omega)).trans hEm8).step hEg9 (fun b hb e => by omega)).trans hEm9).step hEg10 (fun b hb e => by omega)⟩
set_option maxHeartbeats 400000 in
theorem hmnew_spec (h : Heap) :
    FC Try.prog 8 (#[] : Array Value) h fun rv h' => rv = .pointer (some ⟨h.size, 0, none⟩) ∧ MK h' h.size none none (fun _ => 0) 0 ∧ Ext (fun _ => False) h h' := by
  refine FC_of [] Try.func8 rfl Try.ntmps8 (by simp) rfl (fun R hR => ?_)
  refine V_sr T.mix (by kernel_rfl) (fun K1 hK1 => ?_)
  refine S_as rfl ?_
  refine S_nil (hK1 _ _ (V_keep [] (by simp only [proj, lk, reduceIte, Nat.reduceEqDiff]; rfl) ?_)); clear hK1
  refine V_sr T.mix (by kernel_rfl) (fun K2 hK2 => ?_)
  refine S_bld rfl (T.bld44) ?_
  refine S_boxA rfl ?_
  generalize hh : Array.push h _ = h1
  have bx : B h1 h.size #[.slice none 0 0, .slice none 0 0] 44 := by rw [← hh]; exact B.new _ _ _
  have hEh1 : Ext (fun _ => False) h h1 := by rw [← hh]; exact Ext.push _ _ _
  have hsh1 : h1.size = h.size + 1 := by rw [← hh]; simp
  clear hh
  refine S_as rfl ?_
  refine S_nil (hK2 _ _ (V_keep [0] (by simp only [proj, lk, reduceIte, Nat.reduceEqDiff]; rfl) ?_)); clear hK2
  refine V_ret ?_
  refine hR _ _ (ret1 rfl rfl ?_)
  exact ⟨rfl, MK.z _ _ bx, hEh1⟩
set_option maxHeartbeats 1600000 in
theorem sound_spec (h : Heap) (X : Nat) (u : HC) (c : CB h X u) (hn : u.n ≤ 265) (ht : u.top ≤ 1024) (hf_ : u.fill ≤ 265) :
    FC Try.prog 29 (#[.pointer (some ⟨X, 0, none⟩)] : Array Value) h fun rv h' => rv = .bool true ∧ h = h' := by
  try clear q0 q1 q2 q3 q4 q5 q6 q7 q8 q9 q10 q11 q12 alens acode aroot asub awt aht anum apar adep aheap
  obtain ⟨q0, q1, q2, q3, q4, q5, q6, q7, q8, q9, q10, q11, q12⟩ := cq (c)
  obtain ⟨alens, acode, aroot, asub, awt, aht, anum, apar, adep, aheap⟩ := ca (c)
  refine FC_of [(0, .pointer (some ⟨X, 0, none⟩))] Try.func29 rfl Try.ntmps29 (by simp) rfl (fun R hR => ?_)
  refine V_sr T.mix (by kernel_rfl) (fun K1 hK1 => ?_)
  refine S_as rfl ?_
  refine S_nil (hK1 _ _ (V_keep [0] (by simp only [proj, lk, reduceIte, Nat.reduceEqDiff]; rfl) ?_)); clear hK1
  refine V_seq (fun K2 hK2 => ?_)
  refine V_sr T.mix (by kernel_rfl) (fun K3 hK3 => ?_)
  refine S_mv rfl ?_
  refine S_nc rfl ?_
  first | refine S_fa0 T.f42_1 rfl ?_ | refine S_fa T.f42_1 rfl ?_
  refine S_ldK T.ag32 rfl (fun K' hK' => ?_)
  simp (disch := omega) only [q0, q1, q2, q3, q4, q5, q6, q7, q8, q9, q10, q11, q12, oP_some, Nat.add_zero]
  refine hK' _ ?_; clear hK' K'
  refine S_lenl T.el32 rfl ?_
  refine S_bin rfl rfl rfl ?_
  refine S_mv rfl ?_
  refine S_dec (fun g9 => ?_) (fun g9 => ?_)
  · skip
    exfalso; omega
  · skip
    refine S_gt rfl ?_
    refine S_mv rfl ?_
    refine S_gt rfl ?_
    refine S_nc rfl ?_
    refine S_gt rfl ?_
    first | refine S_fa0 T.f42_2 rfl ?_ | refine S_fa T.f42_2 rfl ?_
    refine S_gt rfl ?_
    refine S_ldK T.ag32 rfl (fun K' hK' => ?_)
    simp (disch := omega) only [q0, q1, q2, q3, q4, q5, q6, q7, q8, q9, q10, q11, q12, oP_some, Nat.add_zero]
    refine hK' _ ?_; clear hK' K'
    refine S_gt rfl ?_
    refine S_lenl T.el32 rfl ?_
    refine S_gt rfl ?_
    refine S_bin rfl rfl rfl ?_
    refine S_pf rfl rfl ?_
    refine S_mv rfl ?_
    refine S_dec (fun g9a => ?_) (fun g9a => ?_)
    · skip
      exfalso; omega
    · skip
      refine S_gt rfl ?_
      refine S_mv rfl ?_
      refine S_gt rfl ?_
      refine S_nc rfl ?_
      refine S_gt rfl ?_
      first | refine S_fa0 T.f42_11 rfl ?_ | refine S_fa T.f42_11 rfl ?_
      refine S_gt rfl ?_
      refine S_ldK T.ag32 rfl (fun K' hK' => ?_)
      simp (disch := omega) only [q0, q1, q2, q3, q4, q5, q6, q7, q8, q9, q10, q11, q12, oP_some, Nat.add_zero]
      refine hK' _ ?_; clear hK' K'
      refine S_gt rfl ?_
      refine S_lenl T.el32 rfl ?_
      refine S_gt rfl ?_
      refine S_bin rfl rfl rfl ?_
      refine S_pf rfl rfl ?_
      refine S_nil (hK3 _ _ (V_keep [0, 24] (by simp only [proj, lk, reduceIte, Nat.reduceEqDiff]; rfl) ?_)); clear hK3
      refine V_condp rfl (fun c9 => ?_) (fun c9 => ?_)
      · skip
        exfalso; omega
      · skip
        refine V_skipk [0] (by simp only [proj, lk, reduceIte, Nat.reduceEqDiff]; rfl) ?_
        refine hK2 _ _ ?_; clear hK2
        refine V_seq (fun K4 hK4 => ?_)
        refine V_sr T.mix (by kernel_rfl) (fun K5 hK5 => ?_)
        refine S_mv rfl ?_
        refine S_nc rfl ?_
        first | refine S_fa0 T.f42_3 rfl ?_ | refine S_fa T.f42_3 rfl ?_
        refine S_ldK T.ag32 rfl (fun K' hK' => ?_)
        simp (disch := omega) only [q0, q1, q2, q3, q4, q5, q6, q7, q8, q9, q10, q11, q12, oP_some, Nat.add_zero]
        refine hK' _ ?_; clear hK' K'
        refine S_lenl T.el32 rfl ?_
        refine S_bin rfl rfl rfl ?_
        refine S_mv rfl ?_
        refine S_dec (fun g12 => ?_) (fun g12 => ?_)
        · skip
          exfalso; omega
        · skip
          refine S_gt rfl ?_
          refine S_mv rfl ?_
          refine S_gt rfl ?_
          refine S_nc rfl ?_
          refine S_gt rfl ?_
          first | refine S_fa0 T.f42_4 rfl ?_ | refine S_fa T.f42_4 rfl ?_
          refine S_gt rfl ?_
          refine S_ldK T.ag32 rfl (fun K' hK' => ?_)
          simp (disch := omega) only [q0, q1, q2, q3, q4, q5, q6, q7, q8, q9, q10, q11, q12, oP_some, Nat.add_zero]
          refine hK' _ ?_; clear hK' K'
          refine S_gt rfl ?_
          refine S_lenl T.el32 rfl ?_
          refine S_gt rfl ?_
          refine S_bin rfl rfl rfl ?_
          refine S_pf rfl rfl ?_
          refine S_nil (hK5 _ _ (V_keep [0, 38] (by simp only [proj, lk, reduceIte, Nat.reduceEqDiff]; rfl) ?_)); clear hK5
          refine V_condp rfl (fun c12 => ?_) (fun c12 => ?_)
          · skip
            exfalso; omega
          · skip
            refine V_skipk [0] (by simp only [proj, lk, reduceIte, Nat.reduceEqDiff]; rfl) ?_
            refine hK4 _ _ ?_; clear hK4
            refine V_seq (fun K6 hK6 => ?_)
            refine V_sr T.mix (by kernel_rfl) (fun K7 hK7 => ?_)
            refine S_mv rfl ?_
            refine S_nc rfl ?_
            first | refine S_fa0 T.f42_6 rfl ?_ | refine S_fa T.f42_6 rfl ?_
            refine S_ldK T.ag32 rfl (fun K' hK' => ?_)
            simp (disch := omega) only [q0, q1, q2, q3, q4, q5, q6, q7, q8, q9, q10, q11, q12, oP_some, Nat.add_zero]
            refine hK' _ ?_; clear hK' K'
            refine S_lenl T.el32 rfl ?_
            refine S_bin rfl rfl rfl ?_
            refine S_mv rfl ?_
            refine S_dec (fun g15 => ?_) (fun g15 => ?_)
            · skip
              exfalso; omega
            · skip
              refine S_gt rfl ?_
              refine S_mv rfl ?_
              refine S_gt rfl ?_
              refine S_nc rfl ?_
              refine S_gt rfl ?_
              first | refine S_fa0 T.f42_7 rfl ?_ | refine S_fa T.f42_7 rfl ?_
              refine S_gt rfl ?_
              refine S_ldK T.ag32 rfl (fun K' hK' => ?_)
              simp (disch := omega) only [q0, q1, q2, q3, q4, q5, q6, q7, q8, q9, q10, q11, q12, oP_some, Nat.add_zero]
              refine hK' _ ?_; clear hK' K'
              refine S_gt rfl ?_
              refine S_lenl T.el32 rfl ?_
              refine S_gt rfl ?_
              refine S_bin rfl rfl rfl ?_
              refine S_pf rfl rfl ?_
              refine S_mv rfl ?_
              refine S_dec (fun g15a => ?_) (fun g15a => ?_)
              · skip
                exfalso; omega
              · skip
                refine S_gt rfl ?_
                refine S_mv rfl ?_
                refine S_gt rfl ?_
                refine S_nc rfl ?_
                refine S_gt rfl ?_
                first | refine S_fa0 T.f42_8 rfl ?_ | refine S_fa T.f42_8 rfl ?_
                refine S_gt rfl ?_
                refine S_ldK T.ag32 rfl (fun K' hK' => ?_)
                simp (disch := omega) only [q0, q1, q2, q3, q4, q5, q6, q7, q8, q9, q10, q11, q12, oP_some, Nat.add_zero]
                refine hK' _ ?_; clear hK' K'
                refine S_gt rfl ?_
                refine S_lenl T.el32 rfl ?_
                refine S_gt rfl ?_
                refine S_bin rfl rfl rfl ?_
                refine S_pf rfl rfl ?_
                refine S_nil (hK7 _ _ (V_keep [0, 60] (by simp only [proj, lk, reduceIte, Nat.reduceEqDiff]; rfl) ?_)); clear hK7
                refine V_condp rfl (fun c15 => ?_) (fun c15 => ?_)
                · skip
                  exfalso; omega
                · skip
                  refine V_skipk [0] (by simp only [proj, lk, reduceIte, Nat.reduceEqDiff]; rfl) ?_
                  refine hK6 _ _ ?_; clear hK6
                  refine V_seq (fun K8 hK8 => ?_)
                  refine V_sr T.mix (by kernel_rfl) (fun K9 hK9 => ?_)
                  refine S_mv rfl ?_
                  refine S_nc rfl ?_
                  first | refine S_fa0 T.f42_9 rfl ?_ | refine S_fa T.f42_9 rfl ?_
                  refine S_ldK T.ag32 rfl (fun K' hK' => ?_)
                  simp (disch := omega) only [q0, q1, q2, q3, q4, q5, q6, q7, q8, q9, q10, q11, q12, oP_some, Nat.add_zero]
                  refine hK' _ ?_; clear hK' K'
                  refine S_lenl T.el32 rfl ?_
                  refine S_bin rfl rfl rfl ?_
                  refine S_mv rfl ?_
                  refine S_dec (fun g18 => ?_) (fun g18 => ?_)
                  · skip
                    exfalso; omega
                  · skip
                    refine S_gt rfl ?_
                    refine S_mv rfl ?_
                    refine S_gt rfl ?_
                    refine S_nc rfl ?_
                    refine S_gt rfl ?_
                    first | refine S_fa0 T.f42_10 rfl ?_ | refine S_fa T.f42_10 rfl ?_
                    refine S_gt rfl ?_
                    refine S_ldK T.ag32 rfl (fun K' hK' => ?_)
                    simp (disch := omega) only [q0, q1, q2, q3, q4, q5, q6, q7, q8, q9, q10, q11, q12, oP_some, Nat.add_zero]
                    refine hK' _ ?_; clear hK' K'
                    refine S_gt rfl ?_
                    refine S_lenl T.el32 rfl ?_
                    refine S_gt rfl ?_
                    refine S_bin rfl rfl rfl ?_
                    refine S_pf rfl rfl ?_
                    refine S_nil (hK9 _ _ (V_keep [0, 74] (by simp only [proj, lk, reduceIte, Nat.reduceEqDiff]; rfl) ?_)); clear hK9
                    refine V_condp rfl (fun c18 => ?_) (fun c18 => ?_)
                    · skip
                      exfalso; omega
                    · skip
                      refine V_skipk [0] (by simp only [proj, lk, reduceIte, Nat.reduceEqDiff]; rfl) ?_
                      refine hK8 _ _ ?_; clear hK8
                      refine V_seq (fun K10 hK10 => ?_)
                      refine V_sr T.mix (by kernel_rfl) (fun K11 hK11 => ?_)
                      refine S_mv rfl ?_
                      refine S_nc rfl ?_
                      first | refine S_fa0 T.f42_0 rfl ?_ | refine S_fa T.f42_0 rfl ?_
                      refine S_ldK T.ag3 rfl (fun K' hK' => ?_)
                      simp (disch := omega) only [q0, q1, q2, q3, q4, q5, q6, q7, q8, q9, q10, q11, q12, oP_some, Nat.add_zero]
                      refine hK' _ ?_; clear hK' K'
                      refine S_bin rfl rfl rfl ?_
                      refine S_mv rfl ?_
                      refine S_dec (fun g21 => ?_) (fun g21 => ?_)
                      · skip
                        exfalso; omega
                      · skip
                        refine S_gt rfl ?_
                        refine S_mv rfl ?_
                        refine S_gt rfl ?_
                        refine S_nc rfl ?_
                        refine S_gt rfl ?_
                        first | refine S_fa0 T.f42_0 rfl ?_ | refine S_fa T.f42_0 rfl ?_
                        refine S_gt rfl ?_
                        refine S_ldK T.ag3 rfl (fun K' hK' => ?_)
                        simp (disch := omega) only [q0, q1, q2, q3, q4, q5, q6, q7, q8, q9, q10, q11, q12, oP_some, Nat.add_zero]
                        refine hK' _ ?_; clear hK' K'
                        refine S_gt rfl ?_
                        refine S_bin rfl rfl rfl ?_
                        refine S_pf rfl rfl ?_
                        refine S_mv rfl ?_
                        refine S_dec (fun g21a => ?_) (fun g21a => ?_)
                        · skip
                          exfalso; omega
                        · skip
                          refine S_gt rfl ?_
                          refine S_mv rfl ?_
                          refine S_gt rfl ?_
                          refine S_nc rfl ?_
                          refine S_gt rfl ?_
                          first | refine S_fa0 T.f42_5 rfl ?_ | refine S_fa T.f42_5 rfl ?_
                          refine S_gt rfl ?_
                          refine S_ldK T.ag3 rfl (fun K' hK' => ?_)
                          simp (disch := omega) only [q0, q1, q2, q3, q4, q5, q6, q7, q8, q9, q10, q11, q12, oP_some, Nat.add_zero]
                          refine hK' _ ?_; clear hK' K'
                          refine S_gt rfl ?_
                          refine S_bin rfl rfl rfl ?_
                          refine S_pf rfl rfl ?_
                          refine S_mv rfl ?_
                          refine S_dec (fun g21b => ?_) (fun g21b => ?_)
                          · skip
                            exfalso; omega
                          · skip
                            refine S_gt rfl ?_
                            refine S_mv rfl ?_
                            refine S_gt rfl ?_
                            refine S_nc rfl ?_
                            refine S_gt rfl ?_
                            first | refine S_fa0 T.f42_5 rfl ?_ | refine S_fa T.f42_5 rfl ?_
                            refine S_gt rfl ?_
                            refine S_ldK T.ag3 rfl (fun K' hK' => ?_)
                            simp (disch := omega) only [q0, q1, q2, q3, q4, q5, q6, q7, q8, q9, q10, q11, q12, oP_some, Nat.add_zero]
                            refine hK' _ ?_; clear hK' K'
                            refine S_gt rfl ?_
                            refine S_bin rfl rfl rfl ?_
                            refine S_pf rfl rfl ?_
                            refine S_nil (hK11 _ _ (V_keep [0, 100] (by simp only [proj, lk, reduceIte, Nat.reduceEqDiff]; rfl) ?_)); clear hK11
                            refine V_condp rfl (fun c21 => ?_) (fun c21 => ?_)
                            · skip
                              exfalso; omega
                            · skip
                              refine V_skipk [0] (by simp only [proj, lk, reduceIte, Nat.reduceEqDiff]; rfl) ?_
                              refine hK10 _ _ ?_; clear hK10
                              refine V_sr T.mix (by kernel_rfl) (fun K12 hK12 => ?_)
                              refine S_mv rfl ?_
                              refine S_nc rfl ?_
                              first | refine S_fa0 T.f42_12 rfl ?_ | refine S_fa T.f42_12 rfl ?_
                              refine S_ldK T.ag3 rfl (fun K' hK' => ?_)
                              simp (disch := omega) only [q0, q1, q2, q3, q4, q5, q6, q7, q8, q9, q10, q11, q12, oP_some, Nat.add_zero]
                              refine hK' _ ?_; clear hK' K'
                              refine S_bin rfl rfl rfl ?_
                              refine S_mv rfl ?_
                              refine S_dec (fun g24 => ?_) (fun g24 => ?_)
                              · skip
                                refine S_gt rfl ?_
                                refine S_mv rfl ?_
                                refine S_gt rfl ?_
                                refine S_nc rfl ?_
                                refine S_gt rfl ?_
                                first | refine S_fa0 T.f42_12 rfl ?_ | refine S_fa T.f42_12 rfl ?_
                                refine S_gt rfl ?_
                                refine S_ldK T.ag3 rfl (fun K' hK' => ?_)
                                simp (disch := omega) only [q0, q1, q2, q3, q4, q5, q6, q7, q8, q9, q10, q11, q12, oP_some, Nat.add_zero]
                                refine hK' _ ?_; clear hK' K'
                                refine S_gt rfl ?_
                                refine S_bin rfl rfl rfl ?_
                                refine S_pt rfl rfl ?_
                                refine S_as rfl ?_
                                refine S_nil (hK12 _ _ (V_keep [2] (by simp only [proj, lk, reduceIte, Nat.reduceEqDiff]; rfl) ?_)); clear hK12
                                refine V_ret ?_
                                refine hR _ _ (ret1 rfl rfl ?_)
                                exact ⟨by simp; omega, rfl⟩
                              · skip
                                refine S_gf rfl ?_
                                refine S_gf rfl ?_
                                refine S_gf rfl ?_
                                refine S_gf rfl ?_
                                refine S_gf rfl ?_
                                refine S_pf rfl rfl ?_
                                refine S_as rfl ?_
                                refine S_nil (hK12 _ _ (V_keep [2] (by simp only [proj, lk, reduceIte, Nat.reduceEqDiff]; rfl) ?_)); clear hK12
                                refine V_ret ?_
                                refine hR _ _ (ret1 rfl rfl ?_)
                                exact ⟨by simp; omega, rfl⟩
set_option maxHeartbeats 1600000 in
theorem canon_spec (h : Heap) (X : Nat) (u : HC) (c : CB h X u) (lf : Nat → Nat) (k : CK u lf) :
    FC Try.prog 30 (#[.pointer (some ⟨X, 0, none⟩)] : Array Value) h fun rv h' => rv = .bool true ∧ h = h' := by
  try clear q0 q1 q2 q3 q4 q5 q6 q7 q8 q9 q10 q11 q12 alens acode aroot asub awt aht anum apar adep aheap
  obtain ⟨q0, q1, q2, q3, q4, q5, q6, q7, q8, q9, q10, q11, q12⟩ := cq (c)
  obtain ⟨alens, acode, aroot, asub, awt, aht, anum, apar, adep, aheap⟩ := ca (c)
  have hn := k.n
  have hL := k.lw.ln
  refine FC_of [(0, .pointer (some ⟨X, 0, none⟩))] Try.func30 rfl Try.ntmps30 (by simp) rfl (fun R hR => ?_)
  refine V_sr T.mix (by kernel_rfl) (fun K1 hK1 => ?_)
  refine S_as rfl ?_
  refine S_nil (hK1 _ _ (V_keep [0] (by simp only [proj, lk, reduceIte, Nat.reduceEqDiff]; rfl) ?_)); clear hK1
  refine V_sr T.mix (by kernel_rfl) (fun K2 hK2 => ?_)
  refine S_as rfl ?_
  refine S_nil (hK2 _ _ (V_keep [0, 3] (by simp only [proj, lk, reduceIte, Nat.reduceEqDiff]; rfl) ?_)); clear hK2
  refine V_seq (fun K3 hK3 => ?_)
  refine V_sr T.mix (by kernel_rfl) (fun K4 hK4 => ?_)
  refine S_as rfl ?_
  refine S_nil (hK4 _ _ (V_keep [0, 3, 4] (by simp only [proj, lk, reduceIte, Nat.reduceEqDiff]; rfl) ?_)); clear hK4
  refine V_block ?_
  refine V_loop (fun m l h' => ∃ (n vx : Nat), (1 ≤ n) ∧ (n ≤ 11) ∧ (n ≤ 10 → vx * 2 = fc lf u.n n) ∧ (vx ≤ 1024) ∧ (n = 11 → vx = fc lf u.n 10 + cn lf u.n 10) ∧ m = 11 - n ∧ l = [(0, .pointer (some ⟨X, 0, none⟩)), (3, .int .i64 (vx : Int)), (4, .int .i64 (n : Int))] ∧ h = h') _ ⟨1, 0, by omega, by omega, fun _ => rfl, by omega, fun e => by omega, rfl, rfl, rfl⟩ ?_
  rintro m l h' ⟨n, vx, hn1, hn2, hvx, hvx1, hend, rfl, rfl, rfl⟩ K5 hK5
  refine V_seq (fun K6 hK6 => ?_)
  refine V_sr T.mix (by kernel_rfl) (fun K7 hK7 => ?_)
  refine S_mv rfl ?_
  refine S_bin rfl rfl rfl ?_
  refine S_nil (hK7 _ _ (V_keep [0, 3, 4, 8] (by simp only [proj, lk, reduceIte, Nat.reduceEqDiff]; rfl) ?_)); clear hK7
  refine V_condp rfl (fun c30 => ?_) (fun c30 => ?_)
  · skip
    refine V_skipk [0, 3, 4] (by simp only [proj, lk, reduceIte, Nat.reduceEqDiff]; rfl) ?_
    refine hK6 _ _ ?_; clear hK6
    refine V_seq (fun K8 hK8 => ?_)
    refine V_block ?_
    refine V_sr T.mix (by kernel_rfl) (fun K9 hK9 => ?_)
    refine S_mv rfl ?_
    refine S_nshl vx 1 (vx * 2) rfl rfl rfl rfl (by rw [Nat.pow_one]) (by decide) (t64b (by omega)) ?_
    refine S_as rfl ?_
    refine S_nil (hK9 _ _ (V_keep [0, 3, 4] (by simp only [proj, lk, reduceIte, Nat.reduceEqDiff]; rfl) ?_)); clear hK9
    refine V_sr T.mix (by kernel_rfl) (fun K10 hK10 => ?_)
    refine S_as rfl ?_
    refine S_nil (hK10 _ _ (V_keep [0, 3, 4, 5] (by simp only [proj, lk, reduceIte, Nat.reduceEqDiff]; rfl) ?_)); clear hK10
    refine V_block ?_
    refine V_loop (fun m l h' => ∃ (s vs : Nat), (s ≤ u.n) ∧ (vs = fc lf u.n n + ct (fun t => lf t = n) s) ∧ (vs ≤ 1024) ∧ m = u.n - s ∧ l = [(0, .pointer (some ⟨X, 0, none⟩)), (3, .int .i64 (vs : Int)), (4, .int .i64 (n : Int)), (5, .int .i64 (s : Int))] ∧ h = h') _ ⟨0, vx * 2, Nat.zero_le _, by rw [hvx (by omega), ct_zero]; rfl, by have h9 := hL.fc_le hn1 (show n ≤ 10 by omega); have h8 := hvx (by omega); omega, rfl, rfl, rfl⟩ ?_
    rintro m l h' ⟨s, vs, hs, hvs, hvb, rfl, rfl, rfl⟩ K11 hK11
    have hfb := hL.fc_le hn1 (show n ≤ 10 by omega)
    have hls : s < u.n → u.lens s = lf s := fun z => k.le s z
    refine V_seq (fun K12 hK12 => ?_)
    refine V_sr T.mix (by kernel_rfl) (fun K13 hK13 => ?_)
    refine S_mv rfl ?_
    refine S_mv rfl ?_
    refine S_nc rfl ?_
    first | refine S_fa0 T.f42_0 rfl ?_ | refine S_fa T.f42_0 rfl ?_
    refine S_ldK T.ag3 rfl (fun K' hK' => ?_)
    simp (disch := omega) only [q0, q1, q2, q3, q4, q5, q6, q7, q8, q9, q10, q11, q12, alens, acode, aroot, asub, awt, aht, anum, apar, adep, aheap, oP_some, Nat.add_zero]
    refine hK' _ ?_; clear hK' K'
    refine S_bin rfl rfl rfl ?_
    refine S_nil (hK13 _ _ (V_keep [0, 3, 4, 5, 18] (by simp only [proj, lk, reduceIte, Nat.reduceEqDiff]; rfl) ?_)); clear hK13
    refine V_condp rfl (fun c32 => ?_) (fun c32 => ?_)
    · skip
      refine V_skipk [0, 3, 4, 5] (by simp only [proj, lk, reduceIte, Nat.reduceEqDiff]; rfl) ?_
      refine hK12 _ _ ?_; clear hK12
      refine V_seq (fun K14 hK14 => ?_)
      refine V_block ?_
      refine V_sr T.mix (by kernel_rfl) (fun K15 hK15 => ?_)
      refine S_mv rfl ?_
      refine S_nc rfl ?_
      first | refine S_fa0 T.f42_1 rfl ?_ | refine S_fa T.f42_1 rfl ?_
      refine S_ldK T.ag32 rfl (fun K' hK' => ?_)
      simp (disch := omega) only [q0, q1, q2, q3, q4, q5, q6, q7, q8, q9, q10, q11, q12, alens, acode, aroot, asub, awt, aht, anum, apar, adep, aheap, oP_some, Nat.add_zero]
      refine hK' _ ?_; clear hK' K'
      refine S_mv rfl ?_
      first | refine S_ixn T.el32 rfl rfl (by omega) ?_ | refine S_ix1 T.el32 rfl rfl (by omega) (by omega) ?_ | refine S_ix T.el32 rfl rfl (by omega) (by omega) ?_
      refine S_ldK T.ag3 rfl (fun K' hK' => ?_)
      simp (disch := omega) only [q0, q1, q2, q3, q4, q5, q6, q7, q8, q9, q10, q11, q12, alens, acode, aroot, asub, awt, aht, anum, apar, adep, aheap, oP_some, Nat.add_zero]
      refine hK' _ ?_; clear hK' K'
      refine S_mv rfl ?_
      refine S_bin rfl rfl rfl ?_
      refine S_nil (hK15 _ _ (V_keep [0, 3, 4, 5, 29] (by simp only [proj, lk, reduceIte, Nat.reduceEqDiff]; rfl) ?_)); clear hK15
      refine V_condp rfl (fun c33 => ?_) (fun c33 => ?_)
      · skip
        refine V_sr T.mix (by kernel_rfl) (fun K16 hK16 => ?_)
        refine S_mv rfl ?_
        refine S_mv rfl ?_
        refine S_call T.hb44 rfl ?_
        have hss : lf s = n := by omega
        have hrk := rk_lt (l := lf) (N := u.n) (show s < u.n by omega)
        have hvv : vv lf u.n s = vs := by unfold vv rk; rw [hss, hvs]
        rw [hss] at hrk
        have hcd_ : u.code s = Huf.rv vs n := by rw [k.cd s (by omega)]; unfold cd; rw [hvv, hss]
        refine FC.mono (flip_spec h vs n (by omega) (by omega)) ?_
        rintro v' h' ⟨rfl, rfl⟩
        refine S_as rfl ?_
        refine S_nil (hK16 _ _ (V_keep [0, 3, 4, 5, 6] (by simp only [proj, lk, reduceIte, Nat.reduceEqDiff]; rfl) ?_)); clear hK16
        refine V_seq (fun K17 hK17 => ?_)
        refine V_sr T.mix (by kernel_rfl) (fun K18 hK18 => ?_)
        refine S_mv rfl ?_
        refine S_nc rfl ?_
        first | refine S_fa0 T.f42_2 rfl ?_ | refine S_fa T.f42_2 rfl ?_
        refine S_ldK T.ag32 rfl (fun K' hK' => ?_)
        simp (disch := omega) only [q0, q1, q2, q3, q4, q5, q6, q7, q8, q9, q10, q11, q12, alens, acode, aroot, asub, awt, aht, anum, apar, adep, aheap, oP_some, Nat.add_zero]
        refine hK' _ ?_; clear hK' K'
        refine S_mv rfl ?_
        first | refine S_ixn T.el32 rfl rfl (by omega) ?_ | refine S_ix1 T.el32 rfl rfl (by omega) (by omega) ?_ | refine S_ix T.el32 rfl rfl (by omega) (by omega) ?_
        refine S_ldK T.ag3 rfl (fun K' hK' => ?_)
        simp (disch := omega) only [q0, q1, q2, q3, q4, q5, q6, q7, q8, q9, q10, q11, q12, alens, acode, aroot, asub, awt, aht, anum, apar, adep, aheap, oP_some, Nat.add_zero]
        refine hK' _ ?_; clear hK' K'
        refine S_mv rfl ?_
        refine S_bin rfl rfl rfl ?_
        refine S_nil (hK18 _ _ (V_keep [0, 3, 4, 5, 41] (by simp only [proj, lk, reduceIte, Nat.reduceEqDiff]; rfl) ?_)); clear hK18
        refine V_condp rfl (fun c35 => ?_) (fun c35 => ?_)
        · skip
          exfalso; omega
        · skip
          refine V_skipk [0, 3, 4, 5] (by simp only [proj, lk, reduceIte, Nat.reduceEqDiff]; rfl) ?_
          refine hK17 _ _ ?_; clear hK17
          refine V_reg T.mix (by kernel_rfl) ?_
          refine S_mv rfl ?_
          refine S_addN (vs + 1) rfl rfl (by omega) (by omega) ?_
          refine S_as rfl ?_
          refine S_nilk [0, 3, 4, 5] (by simp only [proj, lk, reduceIte, Nat.reduceEqDiff]; rfl) ?_
          refine hK14 _ _ ?_; clear hK14
          refine V_reg T.mix (by kernel_rfl) ?_
          refine S_mv rfl ?_
          first | refine S_add rfl rfl (by omega) (by omega) ?_ | refine S_bin rfl rfl rfl ?_
          refine S_as rfl ?_
          refine S_nilk [0, 3, 4, 5] (by simp only [proj, lk, reduceIte, Nat.reduceEqDiff]; rfl) ?_
          exact hK11 _ _ ⟨_, by omega, s + 1, vs + 1, by omega, by rw [ct_succ, if_pos (by omega), hvs]; rfl, by have h9 : ct (fun t => lf t = n) s < cn lf u.n n := ct_lt (by omega) (by omega); omega, rfl, rfl, rfl⟩
      · skip
        refine V_skipk [0, 3, 4, 5] (by simp only [proj, lk, reduceIte, Nat.reduceEqDiff]; rfl) ?_
        refine hK14 _ _ ?_; clear hK14
        refine V_reg T.mix (by kernel_rfl) ?_
        refine S_mv rfl ?_
        first | refine S_add rfl rfl (by omega) (by omega) ?_ | refine S_bin rfl rfl rfl ?_
        refine S_as rfl ?_
        refine S_nilk [0, 3, 4, 5] (by simp only [proj, lk, reduceIte, Nat.reduceEqDiff]; rfl) ?_
        exact hK11 _ _ ⟨_, by omega, s + 1, vs, by omega, by rw [ct_succ, if_neg (by omega)]; exact hvs, hvb, rfl, rfl, rfl⟩
    · skip
      have hsN : s = u.n := by omega
      refine V_exitk [0, 3, 4] rfl (by simp only [proj, lk, reduceIte, Nat.reduceEqDiff]; rfl) ?_
      refine hK8 _ _ ?_; clear hK8
      refine V_reg T.mix (by kernel_rfl) ?_
      refine S_mv rfl ?_
      first | refine S_add rfl rfl (by omega) (by omega) ?_ | refine S_bin rfl rfl rfl ?_
      refine S_as rfl ?_
      refine S_nilk [0, 3, 4] (by simp only [proj, lk, reduceIte, Nat.reduceEqDiff]; rfl) ?_
      exact hK5 _ _ ⟨_, by omega, n + 1, vs, by omega, by omega, fun z => by rw [fc_succ _ _ hn1, hvs, hsN]; rfl, by omega, fun e => by rw [hvs, hsN, show n = 10 by omega]; rfl, rfl, rfl, rfl⟩
  · skip
    refine V_exitk [3] rfl (by simp only [proj, lk, reduceIte, Nat.reduceEqDiff]; rfl) ?_
    refine hK3 _ _ ?_; clear hK3
    refine V_sr T.mix (by kernel_rfl) (fun K19 hK19 => ?_)
    refine S_mv rfl ?_
    refine S_bin rfl rfl rfl ?_
    refine S_as rfl ?_
    refine S_nil (hK19 _ _ (V_keep [2] (by simp only [proj, lk, reduceIte, Nat.reduceEqDiff]; rfl) ?_)); clear hK19
    refine V_ret ?_
    refine hR _ _ (ret1 rfl rfl ?_)
    exact ⟨by have h9 := fc_top hL; have h8 := hend (by omega); simp; omega, rfl⟩
set_option maxHeartbeats 3200000 in
theorem links_spec (h : Heap) (X : Nat) (u : HC) (c : CB h X u) (lf : Nat → Nat) (k : CK u lf) :
    FC Try.prog 31 (#[.pointer (some ⟨X, 0, none⟩)] : Array Value) h fun rv h' => rv = .tuple #[.bool true, .int .i64 ((gc u.root 64 0 : Nat) : Int), .int .i64 ((gc u.sub u.top 0 : Nat) : Int)] ∧ h = h' := by
  try clear q0 q1 q2 q3 q4 q5 q6 q7 q8 q9 q10 q11 q12 alens acode aroot asub awt aht anum apar adep aheap
  obtain ⟨q0, q1, q2, q3, q4, q5, q6, q7, q8, q9, q10, q11, q12⟩ := cq (c)
  obtain ⟨alens, acode, aroot, asub, awt, aht, anum, apar, adep, aheap⟩ := ca (c)
  have hn := k.n
  have hL := k.lw.ln
  have tb := k.tb
  have htop := tb.t
  have htl64 := hL.tp_le 64
  refine FC_of [(0, .pointer (some ⟨X, 0, none⟩))] Try.func31 rfl Try.ntmps31 (by simp) rfl (fun R hR => ?_)
  refine V_sr T.mix (by kernel_rfl) (fun K1 hK1 => ?_)
  refine S_as rfl ?_
  refine S_as rfl ?_
  refine S_as rfl ?_
  refine S_nil (hK1 _ _ (V_keep [0] (by simp only [proj, lk, reduceIte, Nat.reduceEqDiff]; rfl) ?_)); clear hK1
  refine V_sr T.mix (by kernel_rfl) (fun K2 hK2 => ?_)
  refine S_as rfl ?_
  refine S_nil (hK2 _ _ (V_keep [0, 5] (by simp only [proj, lk, reduceIte, Nat.reduceEqDiff]; rfl) ?_)); clear hK2
  refine V_sr T.mix (by kernel_rfl) (fun K3 hK3 => ?_)
  refine S_as rfl ?_
  refine S_nil (hK3 _ _ (V_keep [0, 5, 6] (by simp only [proj, lk, reduceIte, Nat.reduceEqDiff]; rfl) ?_)); clear hK3
  refine V_seq (fun K4 hK4 => ?_)
  refine V_sr T.mix (by kernel_rfl) (fun K5 hK5 => ?_)
  refine S_as rfl ?_
  refine S_nil (hK5 _ _ (V_keep [0, 5, 6, 7] (by simp only [proj, lk, reduceIte, Nat.reduceEqDiff]; rfl) ?_)); clear hK5
  refine V_block ?_
  refine V_loop (fun m l h' => ∃ (p ir : Nat), (p ≤ 64) ∧ (ir = ct (fun q => 0 < u.root q) p) ∧ m = 64 - p ∧ l = [(0, .pointer (some ⟨X, 0, none⟩)), (5, .int .i64 (tp lf u.n p : Int)), (6, .int .i64 (ir : Int)), (7, .int .i64 (p : Int))] ∧ h = h') _ ⟨0, 0, Nat.zero_le _, rfl, rfl, rfl, rfl⟩ ?_
  rintro m l h' ⟨p, ir, hp, hir, rfl, rfl, rfl⟩ K6 hK6
  have hirb : ct (fun q => 0 < u.root q) p ≤ p := ct_le _ _
  have htl := hL.tp_le p
  refine V_seq (fun K7 hK7 => ?_)
  refine V_sr T.mix (by kernel_rfl) (fun K8 hK8 => ?_)
  refine S_mv rfl ?_
  refine S_bin rfl rfl rfl ?_
  refine S_nil (hK8 _ _ (V_keep [0, 5, 6, 7, 13] (by simp only [proj, lk, reduceIte, Nat.reduceEqDiff]; rfl) ?_)); clear hK8
  refine V_condp rfl (fun c49 => ?_) (fun c49 => ?_)
  · skip
    refine V_skipk [0, 5, 6, 7] (by simp only [proj, lk, reduceIte, Nat.reduceEqDiff]; rfl) ?_
    refine hK7 _ _ ?_; clear hK7
    refine V_seq (fun K9 hK9 => ?_)
    refine V_block ?_
    refine V_seqJ (fun l h' => ∃ (ir2 : Nat), (ir2 = ct (fun q => 0 < u.root q) (p + 1)) ∧ l = [(0, .pointer (some ⟨X, 0, none⟩)), (5, .int .i64 (tp lf u.n p : Int)), (6, .int .i64 (ir2 : Int)), (7, .int .i64 (p : Int))] ∧ h = h') ?_ ?_
    · skip
      refine V_sr T.mix (by kernel_rfl) (fun K11 hK11 => ?_)
      refine S_mv rfl ?_
      refine S_nc rfl ?_
      first | refine S_fa0 T.f42_3 rfl ?_ | refine S_fa T.f42_3 rfl ?_
      refine S_ldK T.ag32 rfl (fun K' hK' => ?_)
      simp (disch := omega) only [q0, q1, q2, q3, q4, q5, q6, q7, q8, q9, q10, q11, q12, alens, acode, aroot, asub, awt, aht, anum, apar, adep, aheap, oP_some, Nat.add_zero]
      refine hK' _ ?_; clear hK' K'
      refine S_mv rfl ?_
      first | refine S_ixn T.el32 rfl rfl (by omega) ?_ | refine S_ix1 T.el32 rfl rfl (by omega) (by omega) ?_ | refine S_ix T.el32 rfl rfl (by omega) (by omega) ?_
      refine S_ldK T.ag3 rfl (fun K' hK' => ?_)
      simp (disch := omega) only [q0, q1, q2, q3, q4, q5, q6, q7, q8, q9, q10, q11, q12, alens, acode, aroot, asub, awt, aht, anum, apar, adep, aheap, oP_some, Nat.add_zero]
      refine hK' _ ?_; clear hK' K'
      refine S_bin rfl rfl rfl ?_
      refine S_nil (hK11 _ _ (V_keep [0, 5, 6, 7, 23] (by simp only [proj, lk, reduceIte, Nat.reduceEqDiff]; rfl) ?_)); clear hK11
      refine V_condp rfl (fun c50 => ?_) (fun c50 => ?_)
      · skip
        refine V_reg T.mix (by kernel_rfl) ?_
        refine S_mv rfl ?_
        refine S_addN (ir + 1) rfl rfl (by omega) (by omega) ?_
        refine S_as rfl ?_
        refine S_nilk [0, 5, 6, 7] (by simp only [proj, lk, reduceIte, Nat.reduceEqDiff]; rfl) ?_
        exact ⟨ir + 1, by rw [ct_succ, if_pos (by omega), ← hir], rfl, rfl⟩
      · skip
        refine V_skipk [0, 5, 6, 7] (by simp only [proj, lk, reduceIte, Nat.reduceEqDiff]; rfl) ?_
        exact ⟨ir, by rw [ct_succ, if_neg (by omega), ← hir], rfl, rfl⟩
    rintro l h' ⟨ir2, hir2, rfl, rfl⟩
    refine V_sr T.mix (by kernel_rfl) (fun K12 hK12 => ?_)
    refine S_mv rfl ?_
    refine S_nc rfl ?_
    first | refine S_fa0 T.f42_3 rfl ?_ | refine S_fa T.f42_3 rfl ?_
    refine S_ldK T.ag32 rfl (fun K' hK' => ?_)
    simp (disch := omega) only [q0, q1, q2, q3, q4, q5, q6, q7, q8, q9, q10, q11, q12, alens, acode, aroot, asub, awt, aht, anum, apar, adep, aheap, oP_some, Nat.add_zero]
    refine hK' _ ?_; clear hK' K'
    refine S_mv rfl ?_
    first | refine S_ixn T.el32 rfl rfl (by omega) ?_ | refine S_ix1 T.el32 rfl rfl (by omega) (by omega) ?_ | refine S_ix T.el32 rfl rfl (by omega) (by omega) ?_
    refine S_ldK T.ag3 rfl (fun K' hK' => ?_)
    simp (disch := omega) only [q0, q1, q2, q3, q4, q5, q6, q7, q8, q9, q10, q11, q12, alens, acode, aroot, asub, awt, aht, anum, apar, adep, aheap, oP_some, Nat.add_zero]
    refine hK' _ ?_; clear hK' K'
    refine S_bin rfl rfl rfl ?_
    refine S_nil (hK12 _ _ (V_keep [0, 5, 6, 7, 33] (by simp only [proj, lk, reduceIte, Nat.reduceEqDiff]; rfl) ?_)); clear hK12
    refine V_condp rfl (fun c53 => ?_) (fun c53 => ?_)
    · skip
      obtain ⟨t1, t2, t3⟩ := tb.link (show p < 64 by omega) c53
      obtain ⟨wd, hwd⟩ : ∃ w, w = mx lf u.n p u.n := ⟨_, rfl⟩
      have hw4 := hL.mx4 p
      obtain ⟨lk_, hlkv⟩ : ∃ w, w = tp lf u.n p * 16 + wd := ⟨_, rfl⟩
      have hlk : u.root p = -((lk_ : Nat) : Int) := by rw [t2, hlkv, hwd]
      rw [← hwd] at hw4
      have hwp : 1 ≤ wd := by rw [hwd]; exact t1
      have hp2 : 2 ^ wd ≤ 16 := Nat.pow_le_pow_right (n := 2) (by omega) hw4
      have hpwd := pp2 wd
      refine V_sr T.mix (by kernel_rfl) (fun K13 hK13 => ?_)
      refine S_mv rfl ?_
      refine S_nc rfl ?_
      first | refine S_fa0 T.f42_3 rfl ?_ | refine S_fa T.f42_3 rfl ?_
      refine S_ldK T.ag32 rfl (fun K' hK' => ?_)
      simp (disch := omega) only [q0, q1, q2, q3, q4, q5, q6, q7, q8, q9, q10, q11, q12, alens, acode, aroot, asub, awt, aht, anum, apar, adep, aheap, oP_some, Nat.add_zero]
      refine hK' _ ?_; clear hK' K'
      refine S_mv rfl ?_
      first | refine S_ixn T.el32 rfl rfl (by omega) ?_ | refine S_ix1 T.el32 rfl rfl (by omega) (by omega) ?_ | refine S_ix T.el32 rfl rfl (by omega) (by omega) ?_
      refine S_ldK T.ag3 rfl (fun K' hK' => ?_)
      simp (disch := omega) only [q0, q1, q2, q3, q4, q5, q6, q7, q8, q9, q10, q11, q12, alens, acode, aroot, asub, awt, aht, anum, apar, adep, aheap, oP_some, Nat.add_zero]
      refine hK' _ ?_; clear hK' K'
      rw [hlk]
      refine S_neg rfl (by omega) (by omega) ?_
      rw [show -(-((lk_ : Nat) : Int)) = ((lk_ : Nat) : Int) by omega]
      refine S_as rfl ?_
      refine S_nil (hK13 _ _ (V_keep [0, 5, 6, 7, 8] (by simp only [proj, lk, reduceIte, Nat.reduceEqDiff]; rfl) ?_)); clear hK13
      refine V_sr T.mix (by kernel_rfl) (fun K14 hK14 => ?_)
      refine S_mv rfl ?_
      refine S_andm 15 4 16 rfl rfl rfl (by decide) (by decide) (by omega) (by omega) ?_
      rw [show ((lk_ : Nat) : Int) % 16 = ((wd : Nat) : Int) by omega]
      refine S_as rfl ?_
      refine S_nil (hK14 _ _ (V_keep [0, 5, 6, 7, 8, 9] (by simp only [proj, lk, reduceIte, Nat.reduceEqDiff]; rfl) ?_)); clear hK14
      refine V_seq (fun K15 hK15 => ?_)
      refine V_sr T.mix (by kernel_rfl) (fun K16 hK16 => ?_)
      refine S_mv rfl ?_
      refine S_bin rfl rfl rfl ?_
      refine S_mv rfl ?_
      refine S_dec (fun g56 => ?_) (fun g56 => ?_)
      · skip
        exfalso; omega
      · skip
        refine S_gt rfl ?_
        refine S_mv rfl ?_
        refine S_gt rfl ?_
        refine S_bin rfl rfl rfl ?_
        refine S_pf rfl rfl ?_
        refine S_mv rfl ?_
        refine S_dec (fun g56a => ?_) (fun g56a => ?_)
        · skip
          exfalso; omega
        · skip
          refine S_gt rfl ?_
          refine S_mv rfl ?_
          refine S_gt rfl ?_
          refine S_nshr lk_ 4 (tp lf u.n p) rfl rfl rfl rfl (by rw [hlkv]; omega) (by decide) ?_
          refine S_gt rfl ?_
          refine S_mv rfl ?_
          refine S_gt rfl ?_
          refine S_bin rfl rfl rfl ?_
          refine S_pf rfl rfl ?_
          refine S_nil (hK16 _ _ (V_keep [0, 5, 6, 7, 9, 55] (by simp only [proj, lk, reduceIte, Nat.reduceEqDiff]; rfl) ?_)); clear hK16
          refine V_condp rfl (fun c56 => ?_) (fun c56 => ?_)
          · skip
            exfalso; omega
          · skip
            refine V_skipk [0, 5, 6, 7, 9] (by simp only [proj, lk, reduceIte, Nat.reduceEqDiff]; rfl) ?_
            refine hK15 _ _ ?_; clear hK15
            refine V_reg T.mix (by kernel_rfl) ?_
            refine S_mv rfl ?_
            refine S_mv rfl ?_
            refine S_cvN wd T.us3 T.in51 rfl rfl (tu64 (by omega)) ?_
            refine S_nshl 1 wd (2 ^ wd) rfl rfl rfl rfl (Nat.one_mul _) (show wd ≤ 64 by omega) (t64b (by omega)) ?_
            refine S_addN (tp lf u.n p + 2 ^ wd) rfl rfl (by omega) (by omega) ?_
            refine S_as rfl ?_
            refine S_nilk [0, 5, 6, 7] (by simp only [proj, lk, reduceIte, Nat.reduceEqDiff]; rfl) ?_
            refine hK9 _ _ ?_; clear hK9
            refine V_reg T.mix (by kernel_rfl) ?_
            refine S_mv rfl ?_
            first | refine S_add rfl rfl (by omega) (by omega) ?_ | refine S_bin rfl rfl rfl ?_
            refine S_as rfl ?_
            refine S_nilk [0, 5, 6, 7] (by simp only [proj, lk, reduceIte, Nat.reduceEqDiff]; rfl) ?_
            exact hK6 _ _ ⟨_, by omega, p + 1, ir2, by omega, hir2, rfl, by rw [tp_next t1, ← hwd]; rfl, rfl⟩
    · skip
      refine V_skipk [0, 5, 6, 7] (by simp only [proj, lk, reduceIte, Nat.reduceEqDiff]; rfl) ?_
      refine hK9 _ _ ?_; clear hK9
      refine V_reg T.mix (by kernel_rfl) ?_
      refine S_mv rfl ?_
      first | refine S_add rfl rfl (by omega) (by omega) ?_ | refine S_bin rfl rfl rfl ?_
      refine S_as rfl ?_
      refine S_nilk [0, 5, 6, 7] (by simp only [proj, lk, reduceIte, Nat.reduceEqDiff]; rfl) ?_
      exact hK6 _ _ ⟨_, by omega, p + 1, ir2, by omega, hir2, rfl, by rw [tp_same (show mx lf u.n p u.n = 0 by rcases Nat.eq_zero_or_pos (mx lf u.n p u.n) with q | q; (exact q); (exfalso; have h9 := tb.b p (by omega) q; omega))]; rfl, rfl⟩
  · skip
    have hpe : p = 64 := by omega
    rw [hpe] at hir
    have hirb2 : ct (fun q => 0 < u.root q) 64 ≤ 64 := ct_le _ _
    refine V_exitk [0, 5, 6] rfl (by simp only [proj, lk, reduceIte, Nat.reduceEqDiff]; rfl) ?_
    refine hK4 _ _ ?_; clear hK4
    refine V_seq (fun K17 hK17 => ?_)
    refine V_sr T.mix (by kernel_rfl) (fun K18 hK18 => ?_)
    refine S_mv rfl ?_
    refine S_mv rfl ?_
    refine S_nc rfl ?_
    first | refine S_fa0 T.f42_5 rfl ?_ | refine S_fa T.f42_5 rfl ?_
    refine S_ldK T.ag3 rfl (fun K' hK' => ?_)
    simp (disch := omega) only [q0, q1, q2, q3, q4, q5, q6, q7, q8, q9, q10, q11, q12, alens, acode, aroot, asub, awt, aht, anum, apar, adep, aheap, oP_some, Nat.add_zero]
    refine hK' _ ?_; clear hK' K'
    refine S_bin rfl rfl rfl ?_
    refine S_nil (hK18 _ _ (V_keep [0, 6, 66] (by simp only [proj, lk, reduceIte, Nat.reduceEqDiff]; rfl) ?_)); clear hK18
    refine V_condp rfl (fun c62 => ?_) (fun c62 => ?_)
    · skip
      exfalso; rw [hpe] at c62; exact c62 (by rw [htop])
    · skip
      refine V_skipk [0, 6] (by simp only [proj, lk, reduceIte, Nat.reduceEqDiff]; rfl) ?_
      refine hK17 _ _ ?_; clear hK17
      refine V_sr T.mix (by kernel_rfl) (fun K19 hK19 => ?_)
      refine S_as rfl ?_
      refine S_nil (hK19 _ _ (V_keep [0, 6, 10] (by simp only [proj, lk, reduceIte, Nat.reduceEqDiff]; rfl) ?_)); clear hK19
      refine V_seq (fun K20 hK20 => ?_)
      refine V_sr T.mix (by kernel_rfl) (fun K21 hK21 => ?_)
      refine S_as rfl ?_
      refine S_nil (hK21 _ _ (V_keep [0, 6, 10, 11] (by simp only [proj, lk, reduceIte, Nat.reduceEqDiff]; rfl) ?_)); clear hK21
      refine V_block ?_
      refine V_loop (fun m l h' => ∃ (j is_ : Nat), (j ≤ u.top) ∧ (is_ = ct (fun q => 0 < u.sub q) j) ∧ m = u.top - j ∧ l = [(0, .pointer (some ⟨X, 0, none⟩)), (6, .int .i64 (ir : Int)), (10, .int .i64 (is_ : Int)), (11, .int .i64 (j : Int))] ∧ h = h') _ ⟨0, 0, Nat.zero_le _, rfl, rfl, rfl, rfl⟩ ?_
      rintro m l h' ⟨j, is_, hj, his, rfl, rfl, rfl⟩ K22 hK22
      have hisb : ct (fun q => 0 < u.sub q) j ≤ j := ct_le _ _
      have hsl : j < u.top → 0 ≤ u.sub j := fun z => (tb.slt hL z).1
      refine V_seq (fun K23 hK23 => ?_)
      refine V_sr T.mix (by kernel_rfl) (fun K24 hK24 => ?_)
      refine S_mv rfl ?_
      refine S_mv rfl ?_
      refine S_nc rfl ?_
      first | refine S_fa0 T.f42_5 rfl ?_ | refine S_fa T.f42_5 rfl ?_
      refine S_ldK T.ag3 rfl (fun K' hK' => ?_)
      simp (disch := omega) only [q0, q1, q2, q3, q4, q5, q6, q7, q8, q9, q10, q11, q12, alens, acode, aroot, asub, awt, aht, anum, apar, adep, aheap, oP_some, Nat.add_zero]
      refine hK' _ ?_; clear hK' K'
      refine S_bin rfl rfl rfl ?_
      refine S_nil (hK24 _ _ (V_keep [0, 6, 10, 11, 72] (by simp only [proj, lk, reduceIte, Nat.reduceEqDiff]; rfl) ?_)); clear hK24
      refine V_condp rfl (fun c66 => ?_) (fun c66 => ?_)
      · skip
        refine V_skipk [0, 6, 10, 11] (by simp only [proj, lk, reduceIte, Nat.reduceEqDiff]; rfl) ?_
        refine hK23 _ _ ?_; clear hK23
        refine V_seq (fun K25 hK25 => ?_)
        refine V_block ?_
        refine V_seq (fun K26 hK26 => ?_)
        refine V_sr T.mix (by kernel_rfl) (fun K27 hK27 => ?_)
        refine S_mv rfl ?_
        refine S_nc rfl ?_
        first | refine S_fa0 T.f42_4 rfl ?_ | refine S_fa T.f42_4 rfl ?_
        refine S_ldK T.ag32 rfl (fun K' hK' => ?_)
        simp (disch := omega) only [q0, q1, q2, q3, q4, q5, q6, q7, q8, q9, q10, q11, q12, alens, acode, aroot, asub, awt, aht, anum, apar, adep, aheap, oP_some, Nat.add_zero]
        refine hK' _ ?_; clear hK' K'
        refine S_mv rfl ?_
        first | refine S_ixn T.el32 rfl rfl (by omega) ?_ | refine S_ix1 T.el32 rfl rfl (by omega) (by omega) ?_ | refine S_ix T.el32 rfl rfl (by omega) (by omega) ?_
        refine S_ldK T.ag3 rfl (fun K' hK' => ?_)
        simp (disch := omega) only [q0, q1, q2, q3, q4, q5, q6, q7, q8, q9, q10, q11, q12, alens, acode, aroot, asub, awt, aht, anum, apar, adep, aheap, oP_some, Nat.add_zero]
        refine hK' _ ?_; clear hK' K'
        refine S_bin rfl rfl rfl ?_
        refine S_nil (hK27 _ _ (V_keep [0, 6, 10, 11, 82] (by simp only [proj, lk, reduceIte, Nat.reduceEqDiff]; rfl) ?_)); clear hK27
        refine V_condp rfl (fun c67 => ?_) (fun c67 => ?_)
        · skip
          exfalso; omega
        · skip
          refine V_skipk [0, 6, 10, 11] (by simp only [proj, lk, reduceIte, Nat.reduceEqDiff]; rfl) ?_
          refine hK26 _ _ ?_; clear hK26
          refine V_sr T.mix (by kernel_rfl) (fun K28 hK28 => ?_)
          refine S_mv rfl ?_
          refine S_nc rfl ?_
          first | refine S_fa0 T.f42_4 rfl ?_ | refine S_fa T.f42_4 rfl ?_
          refine S_ldK T.ag32 rfl (fun K' hK' => ?_)
          simp (disch := omega) only [q0, q1, q2, q3, q4, q5, q6, q7, q8, q9, q10, q11, q12, alens, acode, aroot, asub, awt, aht, anum, apar, adep, aheap, oP_some, Nat.add_zero]
          refine hK' _ ?_; clear hK' K'
          refine S_mv rfl ?_
          first | refine S_ixn T.el32 rfl rfl (by omega) ?_ | refine S_ix1 T.el32 rfl rfl (by omega) (by omega) ?_ | refine S_ix T.el32 rfl rfl (by omega) (by omega) ?_
          refine S_ldK T.ag3 rfl (fun K' hK' => ?_)
          simp (disch := omega) only [q0, q1, q2, q3, q4, q5, q6, q7, q8, q9, q10, q11, q12, alens, acode, aroot, asub, awt, aht, anum, apar, adep, aheap, oP_some, Nat.add_zero]
          refine hK' _ ?_; clear hK' K'
          refine S_bin rfl rfl rfl ?_
          refine S_nil (hK28 _ _ (V_keep [0, 6, 10, 11, 90] (by simp only [proj, lk, reduceIte, Nat.reduceEqDiff]; rfl) ?_)); clear hK28
          refine V_condp rfl (fun c70 => ?_) (fun c70 => ?_)
          · skip
            refine V_reg T.mix (by kernel_rfl) ?_
            refine S_mv rfl ?_
            refine S_addN (is_ + 1) rfl rfl (by omega) (by omega) ?_
            refine S_as rfl ?_
            refine S_nilk [0, 6, 10, 11] (by simp only [proj, lk, reduceIte, Nat.reduceEqDiff]; rfl) ?_
            refine hK25 _ _ ?_; clear hK25
            refine V_reg T.mix (by kernel_rfl) ?_
            refine S_mv rfl ?_
            first | refine S_add rfl rfl (by omega) (by omega) ?_ | refine S_bin rfl rfl rfl ?_
            refine S_as rfl ?_
            refine S_nilk [0, 6, 10, 11] (by simp only [proj, lk, reduceIte, Nat.reduceEqDiff]; rfl) ?_
            exact hK22 _ _ ⟨_, by omega, j + 1, is_ + 1, by omega, by rw [ct_succ, if_pos (by omega), ← his], rfl, rfl, rfl⟩
          · skip
            refine V_skipk [0, 6, 10, 11] (by simp only [proj, lk, reduceIte, Nat.reduceEqDiff]; rfl) ?_
            refine hK25 _ _ ?_; clear hK25
            refine V_reg T.mix (by kernel_rfl) ?_
            refine S_mv rfl ?_
            first | refine S_add rfl rfl (by omega) (by omega) ?_ | refine S_bin rfl rfl rfl ?_
            refine S_as rfl ?_
            refine S_nilk [0, 6, 10, 11] (by simp only [proj, lk, reduceIte, Nat.reduceEqDiff]; rfl) ?_
            exact hK22 _ _ ⟨_, by omega, j + 1, is_, by omega, by rw [ct_succ, if_neg (by omega), ← his], rfl, rfl, rfl⟩
      · skip
        refine V_exitk [6, 10] rfl (by simp only [proj, lk, reduceIte, Nat.reduceEqDiff]; rfl) ?_
        refine hK20 _ _ ?_; clear hK20
        refine V_sr T.mix (by kernel_rfl) (fun K29 hK29 => ?_)
        refine S_mv rfl ?_
        refine S_mv rfl ?_
        refine S_as rfl ?_
        refine S_as rfl ?_
        refine S_as rfl ?_
        refine S_nil (hK29 _ _ (V_keep [2, 3, 4] (by simp only [proj, lk, reduceIte, Nat.reduceEqDiff]; rfl) ?_)); clear hK29
        refine V_ret ?_
        refine hR _ _ (ret3 rfl rfl rfl rfl ?_)
        exact ⟨by rw [gc_zero, gc_zero, hir, his, show j = u.top by omega], rfl⟩
set_option maxHeartbeats 6400000 in
theorem hcheck_spec (h : Heap) (X : Nat) (u : HC) (c : CB h X u) (lf : Nat → Nat) (k : CK u lf) (hf_ : u.fill ≤ 265) :
    FC Try.prog 18 (#[.pointer (some ⟨X, 0, none⟩)] : Array Value) h fun rv h' => rv = .bool true ∧ h = h' := by
  try clear q0 q1 q2 q3 q4 q5 q6 q7 q8 q9 q10 q11 q12 alens acode aroot asub awt aht anum apar adep aheap
  obtain ⟨q0, q1, q2, q3, q4, q5, q6, q7, q8, q9, q10, q11, q12⟩ := cq (c)
  obtain ⟨alens, acode, aroot, asub, awt, aht, anum, apar, adep, aheap⟩ := ca (c)
  have hn := k.n
  have hL := k.lw.ln
  have tb := k.tb
  have htop := tb.t
  have htl64 := hL.tp_le 64
  refine FC_of [(0, .pointer (some ⟨X, 0, none⟩))] Try.func18 rfl Try.ntmps18 (by simp) rfl (fun R hR => ?_)
  refine V_sr T.mix (by kernel_rfl) (fun K1 hK1 => ?_)
  refine S_as rfl ?_
  refine S_nil (hK1 _ _ (V_keep [0] (by simp only [proj, lk, reduceIte, Nat.reduceEqDiff]; rfl) ?_)); clear hK1
  refine V_seq (fun K2 hK2 => ?_)
  refine V_sr T.mix (by kernel_rfl) (fun K3 hK3 => ?_)
  refine S_mv rfl ?_
  refine S_call T.hb29 rfl ?_
  refine FC.mono (sound_spec h X u c hn (by omega) hf_) ?_
  rintro v' h' ⟨rfl, rfl⟩
  refine S_notb rfl ?_
  refine S_nil (hK3 _ _ (V_keep [0, 14] (by simp only [proj, lk, reduceIte, Nat.reduceEqDiff]; rfl) ?_)); clear hK3
  refine V_condb rfl (fun c171 => ?_) (fun c171 => ?_)
  · skip
    cases c171
  · skip
    refine V_skipk [0] (by simp only [proj, lk, reduceIte, Nat.reduceEqDiff]; rfl) ?_
    refine hK2 _ _ ?_; clear hK2
    refine V_seq (fun K4 hK4 => ?_)
    refine V_sr T.mix (by kernel_rfl) (fun K5 hK5 => ?_)
    refine S_mv rfl ?_
    refine S_call T.hb30 rfl ?_
    refine FC.mono (canon_spec h X u c lf k) ?_
    rintro v' h' ⟨rfl, rfl⟩
    refine S_notb rfl ?_
    refine S_nil (hK5 _ _ (V_keep [0, 17] (by simp only [proj, lk, reduceIte, Nat.reduceEqDiff]; rfl) ?_)); clear hK5
    refine V_condb rfl (fun c174 => ?_) (fun c174 => ?_)
    · skip
      cases c174
    · skip
      refine V_skipk [0] (by simp only [proj, lk, reduceIte, Nat.reduceEqDiff]; rfl) ?_
      refine hK4 _ _ ?_; clear hK4
      refine V_sr T.mix (by kernel_rfl) (fun K6 hK6 => ?_)
      refine S_mv rfl ?_
      refine S_call T.hb31 rfl ?_
      refine FC.mono (links_spec h X u c lf k) ?_
      rintro v' h' ⟨rfl, rfl⟩
      refine S_mv rfl ?_
      refine S_ex rfl rfl ?_
      refine S_ex rfl rfl ?_
      refine S_ex rfl rfl ?_
      refine S_as rfl ?_
      refine S_as rfl ?_
      refine S_as rfl ?_
      refine S_nil (hK6 _ _ (V_keep [0, 3, 4, 5] (by simp only [proj, lk, reduceIte, Nat.reduceEqDiff]; rfl) ?_)); clear hK6
      refine V_seq (fun K7 hK7 => ?_)
      refine V_sr T.mix (by kernel_rfl) (fun K8 hK8 => ?_)
      refine S_mv rfl ?_
      refine S_notb rfl ?_
      refine S_nil (hK8 _ _ (V_keep [0, 4, 5, 25] (by simp only [proj, lk, reduceIte, Nat.reduceEqDiff]; rfl) ?_)); clear hK8
      refine V_condb rfl (fun c178 => ?_) (fun c178 => ?_)
      · skip
        cases c178
      · skip
        refine V_skipk [0, 4, 5] (by simp only [proj, lk, reduceIte, Nat.reduceEqDiff]; rfl) ?_
        refine hK7 _ _ ?_; clear hK7
        refine V_seq (fun K9 hK9 => ?_)
        refine V_sr T.mix (by kernel_rfl) (fun K10 hK10 => ?_)
        refine S_as rfl ?_
        refine S_nil (hK10 _ _ (V_keep [0, 4, 5, 6] (by simp only [proj, lk, reduceIte, Nat.reduceEqDiff]; rfl) ?_)); clear hK10
        refine V_block ?_
        refine V_loop (fun m l h' => ∃ (s : Nat), (s ≤ u.n) ∧ m = u.n - s ∧ l = [(0, .pointer (some ⟨X, 0, none⟩)), (4, .int .i64 ((gc u.root 64 s : Nat) : Int)), (5, .int .i64 ((gc u.sub u.top s : Nat) : Int)), (6, .int .i64 (s : Int))] ∧ h = h') _ ⟨0, Nat.zero_le _, rfl, rfl, rfl⟩ ?_
        rintro m l h' ⟨s, hs, rfl, rfl, rfl⟩ K11 hK11
        have hgr := gc_le u.root 64 s
        have hgs := gc_le u.sub u.top s
        refine V_seq (fun K12 hK12 => ?_)
        refine V_sr T.mix (by kernel_rfl) (fun K13 hK13 => ?_)
        refine S_mv rfl ?_
        refine S_mv rfl ?_
        refine S_nc rfl ?_
        first | refine S_fa0 T.f42_0 rfl ?_ | refine S_fa T.f42_0 rfl ?_
        refine S_ldK T.ag3 rfl (fun K' hK' => ?_)
        simp (disch := omega) only [q0, q1, q2, q3, q4, q5, q6, q7, q8, q9, q10, q11, q12, alens, acode, aroot, asub, awt, aht, anum, apar, adep, aheap, oP_some, Nat.add_zero]
        refine hK' _ ?_; clear hK' K'
        refine S_bin rfl rfl rfl ?_
        refine S_nil (hK13 _ _ (V_keep [0, 4, 5, 6, 31] (by simp only [proj, lk, reduceIte, Nat.reduceEqDiff]; rfl) ?_)); clear hK13
        refine V_condp rfl (fun c181 => ?_) (fun c181 => ?_)
        · skip
          have hls : u.lens s = lf s := k.le s (by omega)
          have hcs : u.code s = cd lf u.n s := k.cd s (by omega)
          have hl10 := hL.le s (by omega)
          have hc10 := cd10 hL (show s < u.n by omega)
          have hcp := Ln.cd_lt (l := lf) (N := u.n) s
          refine V_skipk [0, 4, 5, 6] (by simp only [proj, lk, reduceIte, Nat.reduceEqDiff]; rfl) ?_
          refine hK12 _ _ ?_; clear hK12
          refine V_seq (fun K14 hK14 => ?_)
          refine V_block ?_
          refine V_sr T.mix (by kernel_rfl) (fun K15 hK15 => ?_)
          refine S_mv rfl ?_
          refine S_nc rfl ?_
          first | refine S_fa0 T.f42_1 rfl ?_ | refine S_fa T.f42_1 rfl ?_
          refine S_ldK T.ag32 rfl (fun K' hK' => ?_)
          simp (disch := omega) only [q0, q1, q2, q3, q4, q5, q6, q7, q8, q9, q10, q11, q12, alens, acode, aroot, asub, awt, aht, anum, apar, adep, aheap, oP_some, Nat.add_zero]
          refine hK' _ ?_; clear hK' K'
          refine S_mv rfl ?_
          first | refine S_ixn T.el32 rfl rfl (by omega) ?_ | refine S_ix1 T.el32 rfl rfl (by omega) (by omega) ?_ | refine S_ix T.el32 rfl rfl (by omega) (by omega) ?_
          refine S_ldK T.ag3 rfl (fun K' hK' => ?_)
          simp (disch := omega) only [q0, q1, q2, q3, q4, q5, q6, q7, q8, q9, q10, q11, q12, alens, acode, aroot, asub, awt, aht, anum, apar, adep, aheap, oP_some, Nat.add_zero]
          refine hK' _ ?_; clear hK' K'
          refine S_as rfl ?_
          refine S_nil (hK15 _ _ (V_keep [0, 4, 5, 6, 7] (by simp only [proj, lk, reduceIte, Nat.reduceEqDiff]; rfl) ?_)); clear hK15
          rw [hls]
          refine V_seq (fun K16 hK16 => ?_)
          refine V_sr T.mix (by kernel_rfl) (fun K17 hK17 => ?_)
          refine S_mv rfl ?_
          refine S_bin rfl rfl rfl ?_
          refine S_mv rfl ?_
          refine S_dec (fun g183 => ?_) (fun g183 => ?_)
          · skip
            exfalso; omega
          · skip
            refine S_gt rfl ?_
            refine S_mv rfl ?_
            refine S_gt rfl ?_
            refine S_bin rfl rfl rfl ?_
            refine S_pf rfl rfl ?_
            refine S_nil (hK17 _ _ (V_keep [0, 4, 5, 6, 7, 46] (by simp only [proj, lk, reduceIte, Nat.reduceEqDiff]; rfl) ?_)); clear hK17
            refine V_condp rfl (fun c183 => ?_) (fun c183 => ?_)
            · skip
              exfalso; omega
            · skip
              refine V_skipk [0, 4, 5, 6, 7] (by simp only [proj, lk, reduceIte, Nat.reduceEqDiff]; rfl) ?_
              refine hK16 _ _ ?_; clear hK16
              refine V_sr T.mix (by kernel_rfl) (fun K18 hK18 => ?_)
              refine S_mv rfl ?_
              refine S_nshl s 4 (s * 16) rfl rfl rfl rfl rfl (by decide) (t64b (by omega)) ?_
              refine S_mv rfl ?_
              refine S_nor (s * 16) (lf s) (s * 16 + lf s) rfl rfl rfl rfl (or16 (by omega)) (t64b (by omega)) (t64b (by omega)) ?_
              refine S_as rfl ?_
              refine S_nil (hK18 _ _ (V_keep [0, 4, 5, 6, 7, 8] (by simp only [proj, lk, reduceIte, Nat.reduceEqDiff]; rfl) ?_)); clear hK18
              refine V_sr T.mix (by kernel_rfl) (fun K19 hK19 => ?_)
              refine S_mv rfl ?_
              refine S_bin rfl rfl rfl ?_
              refine S_nil (hK19 _ _ (V_keep [0, 4, 5, 6, 7, 8, 52] (by simp only [proj, lk, reduceIte, Nat.reduceEqDiff]; rfl) ?_)); clear hK19
              refine V_condp rfl (fun c187 => ?_) (fun c187 => ?_)
              · skip
                obtain ⟨wd, hwd⟩ : ∃ w, w = mx lf u.n ((cd lf u.n s) % 64) u.n := ⟨_, rfl⟩
                obtain ⟨st_, hst⟩ : ∃ w, w = tp lf u.n ((cd lf u.n s) % 64) := ⟨_, rfl⟩
                have hwge := mx_le (l := lf) (N := u.n) (n := u.n) (t := s) (by omega) (by omega) rfl
                have hwpos : 0 < mx lf u.n ((cd lf u.n s) % 64) u.n := by omega
                have hw4 := hL.mx4 ((cd lf u.n s) % 64)
                obtain ⟨lk_, hlkv⟩ : ∃ w, w = st_ * 16 + wd := ⟨_, rfl⟩
                have hlk : u.root ((cd lf u.n s) % 64) = -((lk_ : Nat) : Int) := by rw [tb.b ((cd lf u.n s) % 64) (by omega) hwpos, hlkv, hst, hwd]
                have htp := hL.tp_le (((cd lf u.n s) % 64) + 1)
                have htm := tp_mono (l := lf) (N := u.n) (show ((cd lf u.n s) % 64) + 1 ≤ 64 by omega)
                rw [tp_next hwpos] at htp htm
                rw [← hwd] at htp htm hw4 hwpos hwge
                rw [← hst] at htp htm
                have hp2 : 2 ^ wd ≤ 16 := Nat.pow_le_pow_right (n := 2) (by omega) hw4
                have hpwd := pp2 wd
                have hcq : (cd lf u.n s) / 64 < 2 ^ (lf s - 6) := by rw [Nat.div_lt_iff_lt_mul (by omega), show (64 : Nat) = 2 ^ 6 from rfl, ← Nat.pow_add, show lf s - 6 + 6 = lf s by omega]; exact hcp
                have hss : ∀ p_, p_ < u.top → 0 < u.sub p_ → ((s * 16 : Nat) : Int) ≤ u.sub p_ → u.sub p_ < (((s + 1) * 16 : Nat) : Int) → ∃ i_, i_ < 2 ^ wd ∧ i_ % 2 ^ (lf s - 6) = (cd lf u.n s) / 64 ∧ p_ = st_ + i_ := fun p_ hp_ h1_ h2_ h3_ => by obtain ⟨_, _, i_, i1, i2, i3⟩ := tb.ss hL hp_ h1_ h2_ h3_; exact ⟨i_, by rw [hwd]; exact i1, i2, by rw [hst]; exact i3⟩
                have hrsk : gc u.root 64 s = gc u.root 64 (s + 1) := gc_skip (fun p_ hp_ h1_ h2_ => by rcases Int.lt_or_le (u.root p_) (((s + 1) * 16 : Nat) : Int) with q | q; (exfalso; have h9 := (tb.rs hp_ h1_ h2_ q).2.1; omega); (exact q))
                have hgst : gi u.sub u.top s (st_ + (cd lf u.n s) / 64) = gc u.sub u.top s := gi_start (fun p_ hp_ h1_ h2_ h3_ => by obtain ⟨i_, i1, i2, i3⟩ := hss p_ hp_ h1_ h2_ h3_; have h9 := prog_first i2; omega)
                refine V_sr T.mix (by kernel_rfl) (fun K20 hK20 => ?_)
                refine S_mv rfl ?_
                refine S_nc rfl ?_
                first | refine S_fa0 T.f42_3 rfl ?_ | refine S_fa T.f42_3 rfl ?_
                refine S_ldK T.ag32 rfl (fun K' hK' => ?_)
                simp (disch := omega) only [q0, q1, q2, q3, q4, q5, q6, q7, q8, q9, q10, q11, q12, alens, acode, aroot, asub, awt, aht, anum, apar, adep, aheap, oP_some, Nat.add_zero]
                refine hK' _ ?_; clear hK' K'
                refine S_mv rfl ?_
                refine S_nc rfl ?_
                first | refine S_fa0 T.f42_2 rfl ?_ | refine S_fa T.f42_2 rfl ?_
                refine S_ldK T.ag32 rfl (fun K' hK' => ?_)
                simp (disch := omega) only [q0, q1, q2, q3, q4, q5, q6, q7, q8, q9, q10, q11, q12, alens, acode, aroot, asub, awt, aht, anum, apar, adep, aheap, oP_some, Nat.add_zero]
                refine hK' _ ?_; clear hK' K'
                refine S_mv rfl ?_
                first | refine S_ixn T.el32 rfl rfl (by omega) ?_ | refine S_ix1 T.el32 rfl rfl (by omega) (by omega) ?_ | refine S_ix T.el32 rfl rfl (by omega) (by omega) ?_
                refine S_ldK T.ag3 rfl (fun K' hK' => ?_)
                simp (disch := omega) only [q0, q1, q2, q3, q4, q5, q6, q7, q8, q9, q10, q11, q12, alens, acode, aroot, asub, awt, aht, anum, apar, adep, aheap, oP_some, Nat.add_zero]
                refine hK' _ ?_; clear hK' K'
                rw [hcs]
                refine S_andm 63 6 64 rfl rfl rfl (by decide) (by decide) (by omega) (by omega) ?_
                rw [show (((cd lf u.n s) : Nat) : Int) % 64 = ((((cd lf u.n s) % 64) : Nat) : Int) by omega]
                first | refine S_ixn T.el32 rfl rfl (by omega) ?_ | refine S_ix1 T.el32 rfl rfl (by omega) (by omega) ?_ | refine S_ix T.el32 rfl rfl (by omega) (by omega) ?_
                refine S_ldK T.ag3 rfl (fun K' hK' => ?_)
                simp (disch := omega) only [q0, q1, q2, q3, q4, q5, q6, q7, q8, q9, q10, q11, q12, alens, acode, aroot, asub, awt, aht, anum, apar, adep, aheap, oP_some, Nat.add_zero]
                refine hK' _ ?_; clear hK' K'
                rw [hlk]
                refine S_neg rfl (by omega) (by omega) ?_
                rw [show -(-((lk_ : Nat) : Int)) = ((lk_ : Nat) : Int) by omega]
                refine S_as rfl ?_
                refine S_nil (hK20 _ _ (V_keep [0, 4, 5, 6, 7, 8, 9] (by simp only [proj, lk, reduceIte, Nat.reduceEqDiff]; rfl) ?_)); clear hK20
                refine V_seq (fun K21 hK21 => ?_)
                refine V_sr T.mix (by kernel_rfl) (fun K22 hK22 => ?_)
                refine S_mv rfl ?_
                refine S_bin rfl rfl rfl ?_
                refine S_mv rfl ?_
                refine S_dec (fun g189 => ?_) (fun g189 => ?_)
                · skip
                  exfalso; omega
                · skip
                  refine S_gt rfl ?_
                  refine S_mv rfl ?_
                  refine S_gt rfl ?_
                  refine S_andm 15 4 16 rfl rfl rfl (by decide) (by decide) (by omega) (by omega) ?_
                  rw [show ((lk_ : Nat) : Int) % 16 = ((wd : Nat) : Int) by omega]
                  refine S_gt rfl ?_
                  refine S_mv rfl ?_
                  refine S_gt rfl ?_
                  refine S_subN (lf s - 6) rfl rfl (by omega) (by omega) ?_
                  refine S_gt rfl ?_
                  refine S_bin rfl rfl rfl ?_
                  refine S_pf rfl rfl ?_
                  refine S_nil (hK22 _ _ (V_keep [0, 4, 5, 6, 7, 8, 9, 76] (by simp only [proj, lk, reduceIte, Nat.reduceEqDiff]; rfl) ?_)); clear hK22
                  refine V_condp rfl (fun c189 => ?_) (fun c189 => ?_)
                  · skip
                    exfalso; omega
                  · skip
                    refine V_skipk [0, 4, 5, 6, 7, 8, 9] (by simp only [proj, lk, reduceIte, Nat.reduceEqDiff]; rfl) ?_
                    refine hK21 _ _ ?_; clear hK21
                    refine V_sr T.mix (by kernel_rfl) (fun K23 hK23 => ?_)
                    refine S_mv rfl ?_
                    refine S_nc rfl ?_
                    first | refine S_fa0 T.f42_2 rfl ?_ | refine S_fa T.f42_2 rfl ?_
                    refine S_ldK T.ag32 rfl (fun K' hK' => ?_)
                    simp (disch := omega) only [q0, q1, q2, q3, q4, q5, q6, q7, q8, q9, q10, q11, q12, alens, acode, aroot, asub, awt, aht, anum, apar, adep, aheap, oP_some, Nat.add_zero]
                    refine hK' _ ?_; clear hK' K'
                    refine S_mv rfl ?_
                    first | refine S_ixn T.el32 rfl rfl (by omega) ?_ | refine S_ix1 T.el32 rfl rfl (by omega) (by omega) ?_ | refine S_ix T.el32 rfl rfl (by omega) (by omega) ?_
                    refine S_ldK T.ag3 rfl (fun K' hK' => ?_)
                    simp (disch := omega) only [q0, q1, q2, q3, q4, q5, q6, q7, q8, q9, q10, q11, q12, alens, acode, aroot, asub, awt, aht, anum, apar, adep, aheap, oP_some, Nat.add_zero]
                    refine hK' _ ?_; clear hK' K'
                    rw [hcs]
                    refine S_nshr (cd lf u.n s) 6 ((cd lf u.n s) / 64) rfl rfl rfl rfl rfl (by decide) ?_
                    refine S_as rfl ?_
                    refine S_nil (hK23 _ _ (V_keep [0, 4, 5, 6, 7, 8, 9, 10] (by simp only [proj, lk, reduceIte, Nat.reduceEqDiff]; rfl) ?_)); clear hK23
                    refine V_block ?_
                    rw [← hgst]
                    refine V_loop (fun m l h' => ∃ (j : Nat), (j ≤ 2000) ∧ (j % 2 ^ (lf s - 6) = (cd lf u.n s) / 64) ∧ m = 2 ^ wd - j ∧ l = [(0, .pointer (some ⟨X, 0, none⟩)), (4, .int .i64 ((gc u.root 64 s : Nat) : Int)), (5, .int .i64 ((gi u.sub u.top s (st_ + j) : Nat) : Int)), (6, .int .i64 (s : Int)), (7, .int .i64 (lf s : Int)), (8, .int .i64 ((s * 16 + lf s : Nat) : Int)), (9, .int .i64 (lk_ : Int)), (10, .int .i64 (j : Int))] ∧ h = h') _ ⟨(cd lf u.n s) / 64, by omega, Nat.mod_eq_of_lt hcq, rfl, rfl, rfl⟩ ?_
                    rintro m l h' ⟨j, hj1, hjm, rfl, rfl, rfl⟩ K24 hK24
                    have hpw := pp2 (lf s - 6)
                    have hgi := gi_le u.sub u.top s (st_ + j)
                    refine V_seq (fun K25 hK25 => ?_)
                    refine V_sr T.mix (by kernel_rfl) (fun K26 hK26 => ?_)
                    refine S_mv rfl ?_
                    refine S_mv rfl ?_
                    refine S_andm 15 4 16 rfl rfl rfl (by decide) (by decide) (by omega) (by omega) ?_
                    rw [show ((lk_ : Nat) : Int) % 16 = ((wd : Nat) : Int) by omega]
                    refine S_cvN wd T.us3 T.in51 rfl rfl (tu64 (by omega)) ?_
                    refine S_nshl 1 wd (2 ^ wd) rfl rfl rfl rfl (Nat.one_mul _) (show wd ≤ 64 by omega) (t64b (by omega)) ?_
                    refine S_bin rfl rfl rfl ?_
                    refine S_nil (hK26 _ _ (V_keep [0, 4, 5, 6, 7, 8, 9, 10, 90] (by simp only [proj, lk, reduceIte, Nat.reduceEqDiff]; rfl) ?_)); clear hK26
                    refine V_condp rfl (fun c192 => ?_) (fun c192 => ?_)
                    · skip
                      have hsv : u.sub (st_ + j) = ((s * 16 + lf s : Nat) : Int) := by rw [hst]; exact tb.d ((cd lf u.n s) % 64) (by omega) (by rw [← hwd]; omega) j (by rw [← hwd]; omega) s (by omega) (by omega) ((hd_far (by omega) (by omega)).2 ⟨rfl, hjm⟩)
                      have hgs_ : gi u.sub u.top s (st_ + j) = gi u.sub u.top s (st_ + (j + 2 ^ (lf s - 6))) + 1 := gi_step (by omega) (by omega) (by omega) (by omega) (by omega) (fun p_ hp_ ha hb h1_ h2_ => by rcases Int.lt_or_le (u.sub p_) (((s + 1) * 16 : Nat) : Int) with q | q; (exfalso; obtain ⟨i_, i1, i2, i3⟩ := hss p_ hp_ h1_ h2_ q; have h9 := (prog hpw hjm (show j ≤ i_ by omega) (by omega)).1 i2; omega); (exact q))
                      refine V_skipk [0, 4, 5, 6, 7, 8, 9, 10] (by simp only [proj, lk, reduceIte, Nat.reduceEqDiff]; rfl) ?_
                      refine hK25 _ _ ?_; clear hK25
                      refine V_seq (fun K27 hK27 => ?_)
                      refine V_block ?_
                      refine V_seq (fun K28 hK28 => ?_)
                      refine V_sr T.mix (by kernel_rfl) (fun K29 hK29 => ?_)
                      refine S_mv rfl ?_
                      refine S_nc rfl ?_
                      first | refine S_fa0 T.f42_4 rfl ?_ | refine S_fa T.f42_4 rfl ?_
                      refine S_ldK T.ag32 rfl (fun K' hK' => ?_)
                      simp (disch := omega) only [q0, q1, q2, q3, q4, q5, q6, q7, q8, q9, q10, q11, q12, alens, acode, aroot, asub, awt, aht, anum, apar, adep, aheap, oP_some, Nat.add_zero]
                      refine hK' _ ?_; clear hK' K'
                      refine S_mv rfl ?_
                      refine S_nshr lk_ 4 st_ rfl rfl rfl rfl (by rw [hlkv]; omega) (by decide) ?_
                      refine S_mv rfl ?_
                      refine S_addN (st_ + j) rfl rfl (by omega) (by omega) ?_
                      first | refine S_ixn T.el32 rfl rfl (by omega) ?_ | refine S_ix1 T.el32 rfl rfl (by omega) (by omega) ?_ | refine S_ix T.el32 rfl rfl (by omega) (by omega) ?_
                      refine S_ldK T.ag3 rfl (fun K' hK' => ?_)
                      simp (disch := omega) only [q0, q1, q2, q3, q4, q5, q6, q7, q8, q9, q10, q11, q12, alens, acode, aroot, asub, awt, aht, anum, apar, adep, aheap, oP_some, Nat.add_zero]
                      refine hK' _ ?_; clear hK' K'
                      refine S_mv rfl ?_
                      refine S_bin rfl rfl rfl ?_
                      refine S_nil (hK29 _ _ (V_keep [0, 4, 5, 6, 7, 8, 9, 10, 108] (by simp only [proj, lk, reduceIte, Nat.reduceEqDiff]; rfl) ?_)); clear hK29
                      refine V_condp rfl (fun c193 => ?_) (fun c193 => ?_)
                      · skip
                        exfalso; omega
                      · skip
                        refine V_skipk [0, 4, 5, 6, 7, 8, 9, 10] (by simp only [proj, lk, reduceIte, Nat.reduceEqDiff]; rfl) ?_
                        refine hK28 _ _ ?_; clear hK28
                        refine V_reg T.mix (by kernel_rfl) ?_
                        refine S_mv rfl ?_
                        refine S_subN (gi u.sub u.top s (st_ + (j + 2 ^ (lf s - 6)))) rfl rfl (by omega) (by omega) ?_
                        refine S_as rfl ?_
                        refine S_nilk [0, 4, 5, 6, 7, 8, 9, 10] (by simp only [proj, lk, reduceIte, Nat.reduceEqDiff]; rfl) ?_
                        refine hK27 _ _ ?_; clear hK27
                        refine V_reg T.mix (by kernel_rfl) ?_
                        refine S_mv rfl ?_
                        refine S_mv rfl ?_
                        refine S_subN (lf s - 6) rfl rfl (by omega) (by omega) ?_
                        refine S_cvN (lf s - 6) T.us3 T.in51 rfl rfl (tu64 (by omega)) ?_
                        have hpm := p10 (show lf s - 6 ≤ 10 by omega)
                        refine S_nshl 1 (lf s - 6) (2 ^ (lf s - 6)) rfl rfl rfl rfl (Nat.one_mul _) (show lf s - 6 ≤ 64 by omega) (t64b (by omega)) ?_
                        refine S_addN (j + 2 ^ (lf s - 6)) rfl rfl (by omega) (by omega) ?_
                        refine S_as rfl ?_
                        refine S_nilk [0, 4, 5, 6, 7, 8, 9, 10] (by simp only [proj, lk, reduceIte, Nat.reduceEqDiff]; rfl) ?_
                        exact hK24 _ _ ⟨_, by omega, j + 2 ^ (lf s - 6), by have h9 := p10 (show lf s - 6 ≤ 10 by omega); omega, by rw [Nat.add_mod_right]; exact hjm, rfl, rfl, rfl⟩
                    · skip
                      have hge := gi_end2 (f := u.sub) (n := u.top) (s := s) (i := st_ + j) (fun p_ hp_ h1_ h2_ h3_ => by obtain ⟨i_, i1, i2, i3⟩ := hss p_ hp_ h1_ h2_ h3_; omega)
                      refine V_exitk [0, 4, 5, 6] rfl (by simp only [proj, lk, reduceIte, Nat.reduceEqDiff]; rfl) ?_
                      refine hK14 _ _ ?_; clear hK14
                      refine V_reg T.mix (by kernel_rfl) ?_
                      refine S_mv rfl ?_
                      first | refine S_add rfl rfl (by omega) (by omega) ?_ | refine S_bin rfl rfl rfl ?_
                      refine S_as rfl ?_
                      refine S_nilk [0, 4, 5, 6] (by simp only [proj, lk, reduceIte, Nat.reduceEqDiff]; rfl) ?_
                      exact hK11 _ _ ⟨_, by omega, s + 1, by omega, rfl, by rw [hrsk, hge]; rfl, rfl⟩
              · skip
                have hssk : gc u.sub u.top s = gc u.sub u.top (s + 1) := gc_skip (fun p_ hp_ h1_ h2_ => by rcases Int.lt_or_le (u.sub p_) (((s + 1) * 16 : Nat) : Int) with q | q; (exfalso; have h9 := (tb.ss hL hp_ h1_ h2_ q).2.1; omega); (exact q))
                refine V_sr T.mix (by kernel_rfl) (fun K30 hK30 => ?_)
                refine S_mv rfl ?_
                refine S_bin rfl rfl rfl ?_
                refine S_nil (hK30 _ _ (V_keep [0, 4, 5, 6, 7, 8, 112] (by simp only [proj, lk, reduceIte, Nat.reduceEqDiff]; rfl) ?_)); clear hK30
                refine V_condp rfl (fun c198 => ?_) (fun c198 => ?_)
                · skip
                  have hrs : ∀ p_, p_ < 64 → 0 < u.root p_ → ((s * 16 : Nat) : Int) ≤ u.root p_ → u.root p_ < (((s + 1) * 16 : Nat) : Int) → p_ % 2 ^ lf s = (cd lf u.n s) := fun p_ hp_ h1_ h2_ h3_ => (tb.rs hp_ h1_ h2_ h3_).2.2.2
                  have hgst : gi u.root 64 s (cd lf u.n s) = gc u.root 64 s := gi_start (fun p_ hp_ h1_ h2_ h3_ => prog_first (hrs p_ hp_ h1_ h2_ h3_))
                  refine V_sr T.mix (by kernel_rfl) (fun K31 hK31 => ?_)
                  refine S_mv rfl ?_
                  refine S_nc rfl ?_
                  first | refine S_fa0 T.f42_2 rfl ?_ | refine S_fa T.f42_2 rfl ?_
                  refine S_ldK T.ag32 rfl (fun K' hK' => ?_)
                  simp (disch := omega) only [q0, q1, q2, q3, q4, q5, q6, q7, q8, q9, q10, q11, q12, alens, acode, aroot, asub, awt, aht, anum, apar, adep, aheap, oP_some, Nat.add_zero]
                  refine hK' _ ?_; clear hK' K'
                  refine S_mv rfl ?_
                  first | refine S_ixn T.el32 rfl rfl (by omega) ?_ | refine S_ix1 T.el32 rfl rfl (by omega) (by omega) ?_ | refine S_ix T.el32 rfl rfl (by omega) (by omega) ?_
                  refine S_ldK T.ag3 rfl (fun K' hK' => ?_)
                  simp (disch := omega) only [q0, q1, q2, q3, q4, q5, q6, q7, q8, q9, q10, q11, q12, alens, acode, aroot, asub, awt, aht, anum, apar, adep, aheap, oP_some, Nat.add_zero]
                  refine hK' _ ?_; clear hK' K'
                  refine S_as rfl ?_
                  refine S_nil (hK31 _ _ (V_keep [0, 4, 5, 6, 7, 8, 11] (by simp only [proj, lk, reduceIte, Nat.reduceEqDiff]; rfl) ?_)); clear hK31
                  refine V_block ?_
                  try rw [hcs]
                  rw [← hgst]
                  refine V_loop (fun m l h' => ∃ (i : Nat), (i ≤ 2000) ∧ (i % 2 ^ lf s = (cd lf u.n s)) ∧ m = 64 - i ∧ l = [(0, .pointer (some ⟨X, 0, none⟩)), (4, .int .i64 ((gi u.root 64 s i : Nat) : Int)), (5, .int .i64 ((gc u.sub u.top s : Nat) : Int)), (6, .int .i64 (s : Int)), (7, .int .i64 (lf s : Int)), (8, .int .i64 ((s * 16 + lf s : Nat) : Int)), (11, .int .i64 (i : Int))] ∧ h = h') _ ⟨(cd lf u.n s), by omega, Nat.mod_eq_of_lt hcp, rfl, rfl, rfl⟩ ?_
                  rintro m l h' ⟨i, hi1, him, rfl, rfl, rfl⟩ K32 hK32
                  have hpw := pp2 (lf s)
                  have hgi := gi_le u.root 64 s i
                  refine V_seq (fun K33 hK33 => ?_)
                  refine V_sr T.mix (by kernel_rfl) (fun K34 hK34 => ?_)
                  refine S_mv rfl ?_
                  refine S_bin rfl rfl rfl ?_
                  refine S_nil (hK34 _ _ (V_keep [0, 4, 5, 6, 7, 8, 11, 121] (by simp only [proj, lk, reduceIte, Nat.reduceEqDiff]; rfl) ?_)); clear hK34
                  refine V_condp rfl (fun c199 => ?_) (fun c199 => ?_)
                  · skip
                    have hrv_ : u.root i = ((s * 16 + lf s : Nat) : Int) := tb.a i (by omega) s (by omega) (by omega) ⟨by omega, him⟩
                    have hgs_ : gi u.root 64 s i = gi u.root 64 s (i + 2 ^ lf s) + 1 := gi_step (by omega) (by omega) (by omega) (by omega) (by omega) (fun p_ hp_ ha hb h1_ h2_ => by rcases Int.lt_or_le (u.root p_) (((s + 1) * 16 : Nat) : Int) with q | q; (exfalso; have h9 := (prog hpw him (show i ≤ p_ by omega) hb).1 (hrs p_ hp_ h1_ h2_ q); omega); (exact q))
                    refine V_skipk [0, 4, 5, 6, 7, 8, 11] (by simp only [proj, lk, reduceIte, Nat.reduceEqDiff]; rfl) ?_
                    refine hK33 _ _ ?_; clear hK33
                    refine V_seq (fun K35 hK35 => ?_)
                    refine V_block ?_
                    refine V_seq (fun K36 hK36 => ?_)
                    refine V_sr T.mix (by kernel_rfl) (fun K37 hK37 => ?_)
                    refine S_mv rfl ?_
                    refine S_nc rfl ?_
                    first | refine S_fa0 T.f42_3 rfl ?_ | refine S_fa T.f42_3 rfl ?_
                    refine S_ldK T.ag32 rfl (fun K' hK' => ?_)
                    simp (disch := omega) only [q0, q1, q2, q3, q4, q5, q6, q7, q8, q9, q10, q11, q12, alens, acode, aroot, asub, awt, aht, anum, apar, adep, aheap, oP_some, Nat.add_zero]
                    refine hK' _ ?_; clear hK' K'
                    refine S_mv rfl ?_
                    first | refine S_ixn T.el32 rfl rfl (by omega) ?_ | refine S_ix1 T.el32 rfl rfl (by omega) (by omega) ?_ | refine S_ix T.el32 rfl rfl (by omega) (by omega) ?_
                    refine S_ldK T.ag3 rfl (fun K' hK' => ?_)
                    simp (disch := omega) only [q0, q1, q2, q3, q4, q5, q6, q7, q8, q9, q10, q11, q12, alens, acode, aroot, asub, awt, aht, anum, apar, adep, aheap, oP_some, Nat.add_zero]
                    refine hK' _ ?_; clear hK' K'
                    refine S_mv rfl ?_
                    refine S_bin rfl rfl rfl ?_
                    refine S_nil (hK37 _ _ (V_keep [0, 4, 5, 6, 7, 8, 11, 135] (by simp only [proj, lk, reduceIte, Nat.reduceEqDiff]; rfl) ?_)); clear hK37
                    refine V_condp rfl (fun c200 => ?_) (fun c200 => ?_)
                    · skip
                      exfalso; omega
                    · skip
                      refine V_skipk [0, 4, 5, 6, 7, 8, 11] (by simp only [proj, lk, reduceIte, Nat.reduceEqDiff]; rfl) ?_
                      refine hK36 _ _ ?_; clear hK36
                      refine V_reg T.mix (by kernel_rfl) ?_
                      refine S_mv rfl ?_
                      refine S_subN (gi u.root 64 s (i + 2 ^ lf s)) rfl rfl (by omega) (by omega) ?_
                      refine S_as rfl ?_
                      refine S_nilk [0, 4, 5, 6, 7, 8, 11] (by simp only [proj, lk, reduceIte, Nat.reduceEqDiff]; rfl) ?_
                      refine hK35 _ _ ?_; clear hK35
                      refine V_reg T.mix (by kernel_rfl) ?_
                      refine S_mv rfl ?_
                      refine S_mv rfl ?_
                      refine S_cvN (lf s) T.us3 T.in51 rfl rfl (tu64 (by omega)) ?_
                      have hpl := p10 hl10
                      refine S_nshl 1 (lf s) (2 ^ lf s) rfl rfl rfl rfl (Nat.one_mul _) (show lf s ≤ 64 by omega) (t64b (by omega)) ?_
                      refine S_addN (i + 2 ^ lf s) rfl rfl (by omega) (by omega) ?_
                      refine S_as rfl ?_
                      refine S_nilk [0, 4, 5, 6, 7, 8, 11] (by simp only [proj, lk, reduceIte, Nat.reduceEqDiff]; rfl) ?_
                      exact hK32 _ _ ⟨_, by omega, i + 2 ^ lf s, by have h9 := p10 hl10; omega, by rw [Nat.add_mod_right]; exact him, rfl, rfl, rfl⟩
                  · skip
                    have hge := gi_end (f := u.root) (n := 64) (s := s) (i := i) (by omega)
                    refine V_exitk [0, 4, 5, 6] rfl (by simp only [proj, lk, reduceIte, Nat.reduceEqDiff]; rfl) ?_
                    refine hK14 _ _ ?_; clear hK14
                    refine V_reg T.mix (by kernel_rfl) ?_
                    refine S_mv rfl ?_
                    first | refine S_add rfl rfl (by omega) (by omega) ?_ | refine S_bin rfl rfl rfl ?_
                    refine S_as rfl ?_
                    refine S_nilk [0, 4, 5, 6] (by simp only [proj, lk, reduceIte, Nat.reduceEqDiff]; rfl) ?_
                    exact hK11 _ _ ⟨_, by omega, s + 1, by omega, rfl, by rw [hssk, hge]; rfl, rfl⟩
                · skip
                  have hrsk : gc u.root 64 s = gc u.root 64 (s + 1) := gc_skip (fun p_ hp_ h1_ h2_ => by rcases Int.lt_or_le (u.root p_) (((s + 1) * 16 : Nat) : Int) with q | q; (exfalso; have h9 := (tb.rs hp_ h1_ h2_ q).2.2.1; omega); (exact q))
                  refine V_skipk [0, 4, 5, 6] (by simp only [proj, lk, reduceIte, Nat.reduceEqDiff]; rfl) ?_
                  refine hK14 _ _ ?_; clear hK14
                  refine V_reg T.mix (by kernel_rfl) ?_
                  refine S_mv rfl ?_
                  first | refine S_add rfl rfl (by omega) (by omega) ?_ | refine S_bin rfl rfl rfl ?_
                  refine S_as rfl ?_
                  refine S_nilk [0, 4, 5, 6] (by simp only [proj, lk, reduceIte, Nat.reduceEqDiff]; rfl) ?_
                  exact hK11 _ _ ⟨_, by omega, s + 1, by omega, rfl, by rw [hssk, hrsk]; rfl, rfl⟩
        · skip
          have hz1 : gc u.root 64 s = 0 := by rw [show s = u.n by omega]; exact gc_end (fun p_ hp_ h1_ => tb.rlt hp_ h1_)
          have hz2 : gc u.sub u.top s = 0 := by rw [show s = u.n by omega]; exact gc_end (fun p_ hp_ h1_ => (tb.slt hL hp_).2 h1_)
          refine V_exitk [4, 5] rfl (by simp only [proj, lk, reduceIte, Nat.reduceEqDiff]; rfl) ?_
          refine hK9 _ _ ?_; clear hK9
          refine V_sr T.mix (by kernel_rfl) (fun K38 hK38 => ?_)
          refine S_mv rfl ?_
          refine S_bin rfl rfl rfl ?_
          refine S_mv rfl ?_
          refine S_dec (fun g207 => ?_) (fun g207 => ?_)
          · skip
            refine S_gt rfl ?_
            refine S_mv rfl ?_
            refine S_gt rfl ?_
            refine S_bin rfl rfl rfl ?_
            refine S_pt rfl rfl ?_
            refine S_as rfl ?_
            refine S_nil (hK38 _ _ (V_keep [2] (by simp only [proj, lk, reduceIte, Nat.reduceEqDiff]; rfl) ?_)); clear hK38
            refine V_ret ?_
            refine hR _ _ (ret1 rfl rfl ?_)
            exact ⟨by first | rfl | (simp; omega), rfl⟩
          · skip
            refine S_gf rfl ?_
            refine S_gf rfl ?_
            refine S_pf rfl rfl ?_
            refine S_as rfl ?_
            refine S_nil (hK38 _ _ (V_keep [2] (by simp only [proj, lk, reduceIte, Nat.reduceEqDiff]; rfl) ?_)); clear hK38
            refine V_ret ?_
            refine hR _ _ (ret1 rfl rfl ?_)
            exact ⟨by first | rfl | (simp; omega), rfl⟩
set_option maxHeartbeats 3200000 in
theorem mbuild_spec (h : Heap) (M : Nat) (la cb : Option Addr) (lg : Nat → Nat) (N : Nat) (k : MK h M la cb lg N) (ca : Option Addr) (cap : Nat) (cl : List Int) (hIc : IL h ca cap cl) (hcM : ∀ b, blkA ca = some b → b ≠ M) :
    FC Try.prog 41 (#[.pointer (some ⟨M, 0, none⟩), .slice ca cl.length cap] : Array Value) h fun rv h' => rv = .int .i64 ((lensE cl : Nat) : Int) ∧ (lensE cl ≠ 0 → h = h') ∧ (lensE cl = 0 → ∃ la2 cb2, MK h' M la2 cb2 (cf cl) cl.length ∧ (∀ b, blkA la2 = some b → h.size ≤ b) ∧ (∀ b, blkA cb2 = some b → h.size ≤ b)) ∧ Ext (fun b => b = M) h h' := by
  have hMl := k.t.lt
  refine FC_of [(0, .pointer (some ⟨M, 0, none⟩)), (1, .slice ca cl.length cap)] Try.func41 rfl Try.ntmps41 (by simp) rfl (fun R hR => ?_)
  refine V_sr T.mix (by kernel_rfl) (fun K1 hK1 => ?_)
  refine S_as rfl ?_
  refine S_nil (hK1 _ _ (V_keep [0, 1] (by simp only [proj, lk, reduceIte, Nat.reduceEqDiff]; rfl) ?_)); clear hK1
  refine V_sr T.mix (by kernel_rfl) (fun K2 hK2 => ?_)
  refine S_mv rfl ?_
  refine S_call T.hb52 rfl ?_
  refine FC.mono (checklens_spec h ca cap cl hIc) ?_
  rintro v' h' ⟨rfl, rfl⟩
  refine S_as rfl ?_
  refine S_nil (hK2 _ _ (V_keep [0, 1, 5] (by simp only [proj, lk, reduceIte, Nat.reduceEqDiff]; rfl) ?_)); clear hK2
  refine V_seq (fun K3 hK3 => ?_)
  refine V_sr T.mix (by kernel_rfl) (fun K4 hK4 => ?_)
  refine S_mv rfl ?_
  refine S_bin rfl rfl rfl ?_
  refine S_nil (hK4 _ _ (V_keep [0, 1, 5, 12] (by simp only [proj, lk, reduceIte, Nat.reduceEqDiff]; rfl) ?_)); clear hK4
  refine V_condp rfl (fun c229 => ?_) (fun c229 => ?_)
  · skip
    refine V_sr T.mix (by kernel_rfl) (fun K5 hK5 => ?_)
    refine S_mv rfl ?_
    refine S_as rfl ?_
    refine S_nil (hK5 _ _ (V_keep [4] (by simp only [proj, lk, reduceIte, Nat.reduceEqDiff]; rfl) ?_)); clear hK5
    refine V_ret ?_
    refine hR _ _ (ret1 rfl rfl ?_)
    exact ⟨rfl, fun _ => rfl, fun e => by omega, Ext.refl _ _⟩
  · skip
    have he0 : lensE cl = 0 := by omega
    obtain ⟨hl5, hok, hlw⟩ := lensE_lw he0
    have hL := hlw.ln
    refine V_skipk [0, 1] (by simp only [proj, lk, reduceIte, Nat.reduceEqDiff]; rfl) ?_
    refine hK3 _ _ ?_; clear hK3
    refine V_sr T.mix (by kernel_rfl) (fun K6 hK6 => ?_)
    refine S_mv rfl ?_
    refine S_mv rfl ?_
    refine S_call T.hb33 rfl ?_
    refine FC.mono (copyints_spec h ca cap cl hIc (by omega)) ?_
    rintro v' h1 ⟨rfl, bl1, hsz1, hE1⟩
    have bt1 := k.t.ext hE1 (fun f => f)
    have hokM : ∀ j, j < 2 → okPut h1 ⟨M, j, none⟩ = true := fun j hj => bt1.ok (by simpa using hj)
    have hz1 := hE1.1
    refine S_nc rfl ?_
    first | refine S_fa0 T.f44_0 rfl ?_ | refine S_fa T.f44_0 rfl ?_
    refine S_st T.sz32 rfl rfl rfl rfl (by simp (disch := omega) only [hokM]) ?_
    generalize hh : putH _ _ _ = h2
    have bt2 : B h2 M #[.slice (some ⟨h.size, 0, none⟩) cl.length cl.length, .slice cb N N] 44 := by rw [← hh]; exact (bt1.put 0 _).cong (by simp)
    have hE2 : Ext (fun b => b = M) h1 h2 := by rw [← hh]; exact Ext.put _ _ rfl
    clear hh
    have bl2 := bl1.ext hE2 (fun e => by omega)
    have hz2 := hE2.1
    refine S_nil (hK6 _ _ (V_keep [0, 1] (by simp only [proj, lk, reduceIte, Nat.reduceEqDiff]; rfl) ?_)); clear hK6
    refine V_sr T.mix (by kernel_rfl) (fun K7 hK7 => ?_)
    refine S_mv rfl ?_
    refine S_mv rfl ?_
    refine S_lenl T.el32 rfl ?_
    refine S_mk T.ei32 rfl rfl (by omega) (by omega) (by omega) (by omega) ?_
    simp only [Int.toNat_natCast, Nat.mul_one, mkZ_one]
    generalize hh : Array.push h2 _ = h3
    have bc3 : B h3 h2.size (ia cl.length (fun _ => 0)) 3 := by rw [← hh]; exact B.new _ _ _
    have hE3 : Ext (fun _ => False) h2 h3 := by rw [← hh]; exact Ext.push _ _ _
    clear hh
    have bt3 := bt2.ext hE3 (fun f => f)
    have bl3 := bl2.ext hE3 (fun f => f)
    have hokM : ∀ j, j < 2 → okPut h3 ⟨M, j, none⟩ = true := fun j hj => bt3.ok (by simpa using hj)
    have hz3 := hE3.1
    refine S_nc rfl ?_
    first | refine S_fa0 T.f44_1 rfl ?_ | refine S_fa T.f44_1 rfl ?_
    refine S_st T.sz32 rfl rfl rfl rfl (by simp (disch := omega) only [hokM]) ?_
    generalize hh : putH _ _ _ = h4
    have bt4 : B h4 M #[.slice (some ⟨h.size, 0, none⟩) cl.length cl.length, .slice (some ⟨h2.size, 0, none⟩) cl.length cl.length] 44 := by rw [← hh]; exact (bt3.put 1 _).cong (by simp)
    have hE4 : Ext (fun b => b = M) h3 h4 := by rw [← hh]; exact Ext.put _ _ rfl
    clear hh
    have bl4 := bl3.ext hE4 (fun e => by omega)
    have bc4 := bc3.ext hE4 (fun e => by omega)
    have hz4 := hE4.1
    have hEo : Ext (fun b => b = M ∨ h.size ≤ b) h h4 := (((hE1.mono fun _ f => f.elim).trans (hE2.mono fun _ e => .inl e)).trans (hE3.mono fun _ f => f.elim)).trans (hE4.mono fun _ e => .inl e)
    refine S_nil (hK7 _ _ (V_keep [0, 1] (by simp only [proj, lk, reduceIte, Nat.reduceEqDiff]; rfl) ?_)); clear hK7
    refine V_sr T.mix (by kernel_rfl) (fun K8 hK8 => ?_)
    refine S_as rfl ?_
    refine S_nil (hK8 _ _ (V_keep [0, 1, 6] (by simp only [proj, lk, reduceIte, Nat.reduceEqDiff]; rfl) ?_)); clear hK8
    refine V_seq (fun K9 hK9 => ?_)
    refine V_sr T.mix (by kernel_rfl) (fun K10 hK10 => ?_)
    refine S_as rfl ?_
    refine S_nil (hK10 _ _ (V_keep [0, 1, 6, 7] (by simp only [proj, lk, reduceIte, Nat.reduceEqDiff]; rfl) ?_)); clear hK10
    refine V_block ?_
    refine V_loop (fun m l h' => ∃ (n vx : Nat) (hk : Heap) (co : Nat → Nat), (1 ≤ n) ∧ (n ≤ 11) ∧ (n ≤ 10 → vx * 2 = fc (cf cl) cl.length n) ∧ (vx ≤ 1024) ∧ (B hk h2.size (ia cl.length co) 3) ∧ (∀ j, j < cl.length → cf cl j < n → co j = cd (cf cl) cl.length j) ∧ (Ext (fun b => b = h2.size) h4 hk) ∧ m = 11 - n ∧ l = [(0, .pointer (some ⟨M, 0, none⟩)), (1, .slice ca cl.length cap), (6, .int .i64 (vx : Int)), (7, .int .i64 (n : Int))] ∧ hk = h') _ ⟨1, 0, h4, fun _ => 0, by omega, by omega, fun _ => rfl, by omega, bc4, fun j hj z => by unfold cd; rw [show cf cl j = 0 by omega]; rfl, Ext.refl _ _, rfl, rfl, rfl⟩ ?_
    rintro m l h' ⟨n, vx, hk, co, hn1, hn2, hvx, hvx1, bc, hco, hEk, rfl, rfl, rfl⟩ K11 hK11
    refine V_seq (fun K12 hK12 => ?_)
    refine V_sr T.mix (by kernel_rfl) (fun K13 hK13 => ?_)
    refine S_mv rfl ?_
    refine S_bin rfl rfl rfl ?_
    refine S_nil (hK13 _ _ (V_keep [0, 1, 6, 7, 26] (by simp only [proj, lk, reduceIte, Nat.reduceEqDiff]; rfl) ?_)); clear hK13
    refine V_condp rfl (fun c235 => ?_) (fun c235 => ?_)
    · skip
      refine V_skipk [0, 1, 6, 7] (by simp only [proj, lk, reduceIte, Nat.reduceEqDiff]; rfl) ?_
      refine hK12 _ _ ?_; clear hK12
      refine V_seq (fun K14 hK14 => ?_)
      refine V_block ?_
      refine V_sr T.mix (by kernel_rfl) (fun K15 hK15 => ?_)
      refine S_mv rfl ?_
      refine S_nshl vx 1 (vx * 2) rfl rfl rfl rfl (by rw [Nat.pow_one]) (by decide) (t64b (by omega)) ?_
      refine S_as rfl ?_
      refine S_nil (hK15 _ _ (V_keep [0, 1, 6, 7] (by simp only [proj, lk, reduceIte, Nat.reduceEqDiff]; rfl) ?_)); clear hK15
      refine V_sr T.mix (by kernel_rfl) (fun K16 hK16 => ?_)
      refine S_as rfl ?_
      refine S_nil (hK16 _ _ (V_keep [0, 1, 6, 7, 8] (by simp only [proj, lk, reduceIte, Nat.reduceEqDiff]; rfl) ?_)); clear hK16
      refine V_block ?_
      refine V_loop (fun m l h' => ∃ (s vs : Nat) (hk : Heap) (co : Nat → Nat), (s ≤ cl.length) ∧ (vs = fc (cf cl) cl.length n + ct (fun t => cf cl t = n) s) ∧ (vs ≤ 1024) ∧ (B hk h2.size (ia cl.length co) 3) ∧ (∀ j, j < cl.length → cf cl j < n ∨ (cf cl j = n ∧ j < s) → co j = cd (cf cl) cl.length j) ∧ (Ext (fun b => b = h2.size) h4 hk) ∧ m = cl.length - s ∧ l = [(0, .pointer (some ⟨M, 0, none⟩)), (1, .slice ca cl.length cap), (6, .int .i64 (vs : Int)), (7, .int .i64 (n : Int)), (8, .int .i64 (s : Int))] ∧ hk = h') _ ⟨0, vx * 2, hk, co, Nat.zero_le _, by rw [hvx (by omega), ct_zero]; rfl, by have h9 := hL.fc_le hn1 (show n ≤ 10 by omega); have h8 := hvx (by omega); omega, bc, fun j hj z => hco j hj (by omega), hEk, rfl, rfl, rfl⟩ ?_
      rintro m l h' ⟨s, vs, hk, co, hs, hvs, hvb, bc, hco, hEk, rfl, rfl, rfl⟩ K17 hK17
      have hfb := hL.fc_le hn1 (show n ≤ 10 by omega)
      have hIk := (hIc.ext hEo (fun b e z => by have h9 := hIc.lt e; rcases z with z | z; (exact hcM b e z); (omega))).ext hEk (fun b e z => by have h9 := hIc.lt e; omega)
      have hoo := ia_ok bc
      obtain ⟨t0, t1⟩ : cellH hk ⟨M, 0, none⟩ = some (.slice (some ⟨h.size, 0, none⟩) cl.length cl.length) ∧ cellH hk ⟨M, 1, none⟩ = some (.slice (some ⟨h2.size, 0, none⟩) cl.length cl.length) := ⟨(bt4.ext hEk (fun e => by omega)).cell 0, (bt4.ext hEk (fun e => by omega)).cell 1⟩
      refine V_seq (fun K18 hK18 => ?_)
      refine V_sr T.mix (by kernel_rfl) (fun K19 hK19 => ?_)
      refine S_mv rfl ?_
      refine S_mv rfl ?_
      refine S_lenl T.el32 rfl ?_
      refine S_bin rfl rfl rfl ?_
      refine S_nil (hK19 _ _ (V_keep [0, 1, 6, 7, 8, 34] (by simp only [proj, lk, reduceIte, Nat.reduceEqDiff]; rfl) ?_)); clear hK19
      refine V_condp rfl (fun c237 => ?_) (fun c237 => ?_)
      · skip
        obtain ⟨ab, habe, _, hat, _⟩ := hIk.get (by omega)
        subst habe
        have hcf := cf_at (hok s (by omega)).1
        refine V_skipk [0, 1, 6, 7, 8] (by simp only [proj, lk, reduceIte, Nat.reduceEqDiff]; rfl) ?_
        refine hK18 _ _ ?_; clear hK18
        refine V_seq (fun K20 hK20 => ?_)
        refine V_block ?_
        refine V_sr T.mix (by kernel_rfl) (fun K21 hK21 => ?_)
        refine S_mv rfl ?_
        refine S_mv rfl ?_
        first | refine S_ixn T.el32 rfl rfl (by omega) ?_ | refine S_ix1 T.el32 rfl rfl (by omega) (by omega) ?_ | refine S_ix T.el32 rfl rfl (by omega) (by omega) ?_
        refine S_ldK T.ag3 rfl (fun K' hK' => ?_)
        simp (disch := omega) only [hat, oP_some, Nat.add_zero]
        refine hK' _ ?_; clear hK' K'
        refine S_mv rfl ?_
        refine S_bin rfl rfl rfl ?_
        refine S_nil (hK21 _ _ (V_keep [0, 1, 6, 7, 8, 42] (by simp only [proj, lk, reduceIte, Nat.reduceEqDiff]; rfl) ?_)); clear hK21
        refine V_condp rfl (fun c238 => ?_) (fun c238 => ?_)
        · skip
          refine V_srM #[0, 1, 2, 3, 4, 5, 6, 7, 8, 9] [0, 1, 2, 3, 4, 5, 6] 7 [8, 9] T.mix (by kernel_rfl) rfl ⟨rfl, rfl⟩ (fun K22 hK22 => ?_)
          refine S_mv rfl ?_
          refine S_nc rfl ?_
          first | refine S_fa0 T.f44_1 rfl ?_ | refine S_fa T.f44_1 rfl ?_
          refine S_ldK T.ag32 rfl (fun K' hK' => ?_)
          simp (disch := omega) only [t0, t1, oP_some, Nat.add_zero]
          refine hK' _ ?_; clear hK' K'
          refine S_mv rfl ?_
          refine S_mv rfl ?_
          refine S_mv rfl ?_
          refine S_nil ?_
          refine SM_call T.hb58 rfl ?_
          have hss : cf cl s = n := by omega
          have hrk := rk_lt (l := cf cl) (N := cl.length) (show s < cl.length by omega)
          have hvv : vv (cf cl) cl.length s = vs := by unfold vv rk; rw [hss, hvs]
          rw [hss] at hrk
          have hcd_ : Huf.rv vs n = cd (cf cl) cl.length s := by unfold cd; rw [hvv, hss]
          refine FC.mono (turn_spec hk vs n (by omega) (by omega)) ?_
          rintro v' h' ⟨rfl, rfl⟩
          first | refine ⟨Grows.refl _, ?_⟩ | refine ⟨Grows.of_ext (by assumption), ?_⟩
          first | refine S_ixn T.el32 rfl rfl (by omega) ?_ | refine S_ix1 T.el32 rfl rfl (by omega) (by omega) ?_ | refine S_ix T.el32 rfl rfl (by omega) (by omega) ?_
          refine S_st T.sz3 rfl rfl rfl rfl (by simp (disch := omega) only [hoo]) ?_
          generalize hh : putH _ _ _ = h5
          have bc5 : B h5 h2.size (ia cl.length (ups co s (Huf.rv vs n))) 3 := by rw [← hh]; exact ia_put bc _ _
          have hE5 : Ext (fun b => b = h2.size) hk h5 := by rw [← hh]; exact Ext.put _ _ rfl
          clear hh
          rw [hcd_] at bc5
          refine S_nil (hK22 _ _ (V_keep [0, 1, 6, 7, 8] (by simp only [proj, lk, reduceIte, Nat.reduceEqDiff]; rfl) ?_)); clear hK22
          refine V_reg T.mix (by kernel_rfl) ?_
          refine S_mv rfl ?_
          refine S_addN (vs + 1) rfl rfl (by omega) (by omega) ?_
          refine S_as rfl ?_
          refine S_nilk [0, 1, 6, 7, 8] (by simp only [proj, lk, reduceIte, Nat.reduceEqDiff]; rfl) ?_
          refine hK20 _ _ ?_; clear hK20
          refine V_reg T.mix (by kernel_rfl) ?_
          refine S_mv rfl ?_
          first | refine S_add rfl rfl (by omega) (by omega) ?_ | refine S_bin rfl rfl rfl ?_
          refine S_as rfl ?_
          refine S_nilk [0, 1, 6, 7, 8] (by simp only [proj, lk, reduceIte, Nat.reduceEqDiff]; rfl) ?_
          exact hK17 _ _ ⟨_, by omega, s + 1, vs + 1, h5, _, by omega, by rw [ct_succ, if_pos hss, hvs]; rfl, by have h9 : ct (fun t => cf cl t = n) s < cn (cf cl) cl.length n := ct_lt (by omega) hss; omega, bc5, fun j hj z => by by_cases e : j = s; (rw [e, ups_eq]); (rw [ups_ne _ _ e]; exact hco j hj (by omega)), hEk.trans hE5, rfl, rfl, rfl⟩
        · skip
          have hns : ¬ cf cl s = n := by omega
          refine V_skipk [0, 1, 6, 7, 8] (by simp only [proj, lk, reduceIte, Nat.reduceEqDiff]; rfl) ?_
          refine hK20 _ _ ?_; clear hK20
          refine V_reg T.mix (by kernel_rfl) ?_
          refine S_mv rfl ?_
          first | refine S_add rfl rfl (by omega) (by omega) ?_ | refine S_bin rfl rfl rfl ?_
          refine S_as rfl ?_
          refine S_nilk [0, 1, 6, 7, 8] (by simp only [proj, lk, reduceIte, Nat.reduceEqDiff]; rfl) ?_
          exact hK17 _ _ ⟨_, by omega, s + 1, vs, hk, co, by omega, by rw [ct_succ, if_neg hns]; exact hvs, hvb, bc, fun j hj z => hco j hj (by rcases z with z | z; (exact .inl z); (right; refine ⟨z.1, ?_⟩; have : j ≠ s := fun e => hns (e ▸ z.1); omega)), hEk, rfl, rfl, rfl⟩
      · skip
        have hsN : s = cl.length := by omega
        refine V_exitk [0, 1, 6, 7] rfl (by simp only [proj, lk, reduceIte, Nat.reduceEqDiff]; rfl) ?_
        refine hK14 _ _ ?_; clear hK14
        refine V_reg T.mix (by kernel_rfl) ?_
        refine S_mv rfl ?_
        first | refine S_add rfl rfl (by omega) (by omega) ?_ | refine S_bin rfl rfl rfl ?_
        refine S_as rfl ?_
        refine S_nilk [0, 1, 6, 7] (by simp only [proj, lk, reduceIte, Nat.reduceEqDiff]; rfl) ?_
        exact hK11 _ _ ⟨_, by omega, n + 1, vs, hk, co, by omega, by omega, fun z => by rw [fc_succ _ _ hn1, hvs, hsN]; rfl, by omega, bc, fun j hj z => hco j hj (by omega), hEk, rfl, rfl, rfl⟩
    · skip
      refine V_exitk [] rfl (by simp only [proj, lk, reduceIte, Nat.reduceEqDiff]; rfl) ?_
      refine hK9 _ _ ?_; clear hK9
      refine V_sr T.mix (by kernel_rfl) (fun K23 hK23 => ?_)
      refine S_as rfl ?_
      refine S_nil (hK23 _ _ (V_keep [4] (by simp only [proj, lk, reduceIte, Nat.reduceEqDiff]; rfl) ?_)); clear hK23
      refine V_ret ?_
      refine hR _ _ (ret1 rfl rfl ?_)
      have hblf : B hk h.size (ia cl.length (cf cl)) 3 := by have h9 := bl4.ext hEk (fun e => by omega); have h8 : BL hk h.size cl := h9; rw [okL_il hok] at h8; exact h8.il
      have hbcf : B hk h2.size (ia cl.length (cd (cf cl) cl.length)) 3 := ia_cong bc (fun j hj => hco j hj (by have h9 := hL.le j hj; omega))
      exact ⟨by rw [he0]; rfl, fun e => absurd he0 e, fun _ => ⟨_, _, ⟨bt4.ext hEk (fun e => by omega), IL.of hblf, IL.of hbcf, hlw, hl5⟩, fun b e => by cases e; exact Nat.le_refl _, fun b e => by cases e; show h.size ≤ h2.size; omega⟩, (hEo.trans (hEk.mono fun b e => .inr (by omega))).1, fun b hb hn => (hEo.trans (hEk.mono fun b e => .inr (by omega))).2 b hb (fun e => by rcases e with e | e; (exact hn e); (omega))⟩
end Go.Proofs.Qxb6500407a
