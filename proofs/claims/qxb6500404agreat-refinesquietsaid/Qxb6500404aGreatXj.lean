import Derived.Test.Qxb6500404aGreatXi
import Derived.Test.Qxb6500404aGreatHj
set_option linter.unusedVariables false
set_option linter.unusedSimpArgs false
namespace Go.Proofs.Qxb6500404aGreat.HufW
open Go.Eng Go.Huf

def HC.z : HC := ⟨0, fun _ => 0, fun _ => 0, fun _ => 0, fun _ => 0, 0, fun _ => 0, fun _ => 0, fun _ => 0, fun _ => 0, fun _ => 0, fun _ => 0, 0⟩
theorem CK.z : CK HC.z (fun _ => 0) := ⟨by simp [HC.z], fun j hj => by simp [HC.z] at hj, fun j hj => by simp [HC.z] at hj, TB.nil (fun _ _ => rfl) rfl, Lw.nil⟩
theorem iz0 (n : Nat) : (ia n fun _ => 0) = iz n (fun _ => 0) := rfl
theorem fc_one (lf : Nat → Nat) (N : Nat) : fc lf N 1 = 0 := rfl
/-- canon's last number -/
theorem fc_top {lf : Nat → Nat} {N : Nat} (h : Ln lf N) : fc lf N 10 + cn lf N 10 ≤ 1024 := h.fc_le (by omega) (by omega)
theorem ct_zero (p : Nat → Prop) [DecidablePred p] : ct p 0 = 0 := rfl
set_option maxHeartbeats 1600000 in
theorem hnew_spec (h : Heap) :
    FC Tryz.prog 14 (#[] : Array Value) h fun rv h' => rv = .pointer (some ⟨h.size, 0, none⟩) ∧ CB h' h.size HC.z ∧ Ext (fun _ => False) h h' := by
  refine FC_of [] Tryz.func14 rfl Tryz.ntmps14 (by simp) rfl (fun R hR => ?_)
  refine V_sr T.mix (by kernel_rfl) (fun K1 hK1 => ?_)
  refine S_as rfl ?_
  refine S_nil (hK1 _ _ (V_keep [] (by simp only [proj, lk, reduceIte, Nat.reduceEqDiff]; rfl) ?_)); clear hK1
  refine V_sr T.mix (by kernel_rfl) (fun K2 hK2 => ?_)
  refine S_bld rfl (T.bld70) ?_
  refine S_boxA rfl ?_
  generalize hh : Array.push h _ = h1
  have bx : B h1 h.size #[.int .i64 0, .slice none 0 0, .slice none 0 0, .slice none 0 0, .slice none 0 0, .int .i64 0, .slice none 0 0, .slice none 0 0, .slice none 0 0, .slice none 0 0, .slice none 0 0, .slice none 0 0, .int .i64 0] 70 := by rw [← hh]; exact B.new _ _ _
  have hEh1 : Ext (fun _ => False) h h1 := by rw [← hh]; exact Ext.push _ _ _
  have hsh1 : h1.size = h.size + 1 := by rw [← hh]; simp
  clear hh
  refine S_as rfl ?_
  refine S_nil (hK2 _ _ (V_keep [1] (by simp only [proj, lk, reduceIte, Nat.reduceEqDiff]; rfl) ?_)); clear hK2
  refine V_sr T.mix (by kernel_rfl) (fun K3 hK3 => ?_)
  refine S_mv rfl ?_
  refine S_mk T.ei56 rfl rfl (by omega) (by omega) (by omega) (by omega) ?_
  rw [show ((265 : Int)).toNat = 265 from rfl, Nat.mul_one, mkZ_one]
  generalize hh : Array.push h1 _ = m0
  have ba0 : B m0 h1.size (ia 265 (fun _ => 0)) 3 := by rw [← hh]; exact B.new _ _ _
  have hEm0 : Ext (fun _ => False) h1 m0 := by rw [← hh]; exact Ext.push _ _ _
  have hsm0 : m0.size = h1.size + 1 := by rw [← hh]; simp
  clear hh
  have bs0 := bx.ext hEm0 (fun f => f)
  have hokN : ∀ j, j < 13 → okPut m0 ⟨h.size, j, none⟩ = true := fun j hj => bs0.ok (by simpa using hj)
  rw [show h1.size = h.size + 1 by omega] at ba0
  rw [show h1.size = h.size + 1 by omega]
  refine S_nc rfl ?_
  first | refine S_fa0 T.f70_1 rfl ?_ | refine S_fa T.f70_1 rfl ?_
  refine S_st T.sz56 rfl rfl rfl rfl (by simp (disch := omega) only [hokN]) ?_
  generalize hh : putH _ _ _ = g1
  have bt1 : B g1 h.size #[.int .i64 0, .slice (some ⟨h.size + 1, 0, none⟩) 265 265, .slice none 0 0, .slice none 0 0, .slice none 0 0, .int .i64 0, .slice none 0 0, .slice none 0 0, .slice none 0 0, .slice none 0 0, .slice none 0 0, .slice none 0 0, .int .i64 0] 70 := by rw [← hh]; exact (bs0.put 1 _).cong (by simp)
  have hEg1 : Ext (fun b => b = h.size) m0 g1 := by rw [← hh]; exact Ext.put _ _ rfl
  have hsg1 : g1.size = m0.size := by rw [← hh]; exact size_put _ _
  clear hh
  refine S_nil (hK3 _ _ (V_keep [1] (by simp only [proj, lk, reduceIte, Nat.reduceEqDiff]; rfl) ?_)); clear hK3
  refine V_sr T.mix (by kernel_rfl) (fun K4 hK4 => ?_)
  refine S_mv rfl ?_
  refine S_mk T.ei56 rfl rfl (by omega) (by omega) (by omega) (by omega) ?_
  rw [show ((265 : Int)).toNat = 265 from rfl, Nat.mul_one, mkZ_one]
  generalize hh : Array.push g1 _ = m1
  have ba1 : B m1 g1.size (ia 265 (fun _ => 0)) 3 := by rw [← hh]; exact B.new _ _ _
  have hEm1 : Ext (fun _ => False) g1 m1 := by rw [← hh]; exact Ext.push _ _ _
  have hsm1 : m1.size = g1.size + 1 := by rw [← hh]; simp
  clear hh
  have bs1 := bt1.ext hEm1 (fun f => f)
  have hokN : ∀ j, j < 13 → okPut m1 ⟨h.size, j, none⟩ = true := fun j hj => bs1.ok (by simpa using hj)
  rw [show g1.size = h.size + 2 by omega] at ba1
  rw [show g1.size = h.size + 2 by omega]
  refine S_nc rfl ?_
  first | refine S_fa0 T.f70_2 rfl ?_ | refine S_fa T.f70_2 rfl ?_
  refine S_st T.sz56 rfl rfl rfl rfl (by simp (disch := omega) only [hokN]) ?_
  generalize hh : putH _ _ _ = g2
  have bt2 : B g2 h.size #[.int .i64 0, .slice (some ⟨h.size + 1, 0, none⟩) 265 265, .slice (some ⟨h.size + 2, 0, none⟩) 265 265, .slice none 0 0, .slice none 0 0, .int .i64 0, .slice none 0 0, .slice none 0 0, .slice none 0 0, .slice none 0 0, .slice none 0 0, .slice none 0 0, .int .i64 0] 70 := by rw [← hh]; exact (bs1.put 2 _).cong (by simp)
  have hEg2 : Ext (fun b => b = h.size) m1 g2 := by rw [← hh]; exact Ext.put _ _ rfl
  have hsg2 : g2.size = m1.size := by rw [← hh]; exact size_put _ _
  clear hh
  refine S_nil (hK4 _ _ (V_keep [1] (by simp only [proj, lk, reduceIte, Nat.reduceEqDiff]; rfl) ?_)); clear hK4
  refine V_sr T.mix (by kernel_rfl) (fun K5 hK5 => ?_)
  refine S_mv rfl ?_
  refine S_mk T.ei56 rfl rfl (by omega) (by omega) (by omega) (by omega) ?_
  rw [show ((64 : Int)).toNat = 64 from rfl, Nat.mul_one, mkZ_one]
  generalize hh : Array.push g2 _ = m2
  have ba2 : B m2 g2.size (ia 64 (fun _ => 0)) 3 := by rw [← hh]; exact B.new _ _ _
  have hEm2 : Ext (fun _ => False) g2 m2 := by rw [← hh]; exact Ext.push _ _ _
  have hsm2 : m2.size = g2.size + 1 := by rw [← hh]; simp
  clear hh
  have bs2 := bt2.ext hEm2 (fun f => f)
  have hokN : ∀ j, j < 13 → okPut m2 ⟨h.size, j, none⟩ = true := fun j hj => bs2.ok (by simpa using hj)
  rw [show g2.size = h.size + 3 by omega] at ba2
  rw [show g2.size = h.size + 3 by omega]
  refine S_nc rfl ?_
  first | refine S_fa0 T.f70_3 rfl ?_ | refine S_fa T.f70_3 rfl ?_
  refine S_st T.sz56 rfl rfl rfl rfl (by simp (disch := omega) only [hokN]) ?_
  generalize hh : putH _ _ _ = g3
  have bt3 : B g3 h.size #[.int .i64 0, .slice (some ⟨h.size + 1, 0, none⟩) 265 265, .slice (some ⟨h.size + 2, 0, none⟩) 265 265, .slice (some ⟨h.size + 3, 0, none⟩) 64 64, .slice none 0 0, .int .i64 0, .slice none 0 0, .slice none 0 0, .slice none 0 0, .slice none 0 0, .slice none 0 0, .slice none 0 0, .int .i64 0] 70 := by rw [← hh]; exact (bs2.put 3 _).cong (by simp)
  have hEg3 : Ext (fun b => b = h.size) m2 g3 := by rw [← hh]; exact Ext.put _ _ rfl
  have hsg3 : g3.size = m2.size := by rw [← hh]; exact size_put _ _
  clear hh
  refine S_nil (hK5 _ _ (V_keep [1] (by simp only [proj, lk, reduceIte, Nat.reduceEqDiff]; rfl) ?_)); clear hK5
  refine V_sr T.mix (by kernel_rfl) (fun K6 hK6 => ?_)
  refine S_mv rfl ?_
  refine S_mk T.ei56 rfl rfl (by omega) (by omega) (by omega) (by omega) ?_
  rw [show ((1024 : Int)).toNat = 1024 from rfl, Nat.mul_one, mkZ_one]
  generalize hh : Array.push g3 _ = m3
  have ba3 : B m3 g3.size (ia 1024 (fun _ => 0)) 3 := by rw [← hh]; exact B.new _ _ _
  have hEm3 : Ext (fun _ => False) g3 m3 := by rw [← hh]; exact Ext.push _ _ _
  have hsm3 : m3.size = g3.size + 1 := by rw [← hh]; simp
  clear hh
  have bs3 := bt3.ext hEm3 (fun f => f)
  have hokN : ∀ j, j < 13 → okPut m3 ⟨h.size, j, none⟩ = true := fun j hj => bs3.ok (by simpa using hj)
  rw [show g3.size = h.size + 4 by omega] at ba3
  rw [show g3.size = h.size + 4 by omega]
  refine S_nc rfl ?_
  first | refine S_fa0 T.f70_4 rfl ?_ | refine S_fa T.f70_4 rfl ?_
  refine S_st T.sz56 rfl rfl rfl rfl (by simp (disch := omega) only [hokN]) ?_
  generalize hh : putH _ _ _ = g4
  have bt4 : B g4 h.size #[.int .i64 0, .slice (some ⟨h.size + 1, 0, none⟩) 265 265, .slice (some ⟨h.size + 2, 0, none⟩) 265 265, .slice (some ⟨h.size + 3, 0, none⟩) 64 64, .slice (some ⟨h.size + 4, 0, none⟩) 1024 1024, .int .i64 0, .slice none 0 0, .slice none 0 0, .slice none 0 0, .slice none 0 0, .slice none 0 0, .slice none 0 0, .int .i64 0] 70 := by rw [← hh]; exact (bs3.put 4 _).cong (by simp)
  have hEg4 : Ext (fun b => b = h.size) m3 g4 := by rw [← hh]; exact Ext.put _ _ rfl
  have hsg4 : g4.size = m3.size := by rw [← hh]; exact size_put _ _
  clear hh
  refine S_nil (hK6 _ _ (V_keep [1] (by simp only [proj, lk, reduceIte, Nat.reduceEqDiff]; rfl) ?_)); clear hK6
  refine V_sr T.mix (by kernel_rfl) (fun K7 hK7 => ?_)
  refine S_mv rfl ?_
  refine S_mk T.ei56 rfl rfl (by omega) (by omega) (by omega) (by omega) ?_
  rw [show ((529 : Int)).toNat = 529 from rfl, Nat.mul_one, mkZ_one]
  generalize hh : Array.push g4 _ = m4
  have ba4 : B m4 g4.size (ia 529 (fun _ => 0)) 3 := by rw [← hh]; exact B.new _ _ _
  have hEm4 : Ext (fun _ => False) g4 m4 := by rw [← hh]; exact Ext.push _ _ _
  have hsm4 : m4.size = g4.size + 1 := by rw [← hh]; simp
  clear hh
  have bs4 := bt4.ext hEm4 (fun f => f)
  have hokN : ∀ j, j < 13 → okPut m4 ⟨h.size, j, none⟩ = true := fun j hj => bs4.ok (by simpa using hj)
  rw [show g4.size = h.size + 5 by omega] at ba4
  rw [show g4.size = h.size + 5 by omega]
  refine S_nc rfl ?_
  first | refine S_fa0 T.f70_6 rfl ?_ | refine S_fa T.f70_6 rfl ?_
  refine S_st T.sz56 rfl rfl rfl rfl (by simp (disch := omega) only [hokN]) ?_
  generalize hh : putH _ _ _ = g5
  have bt5 : B g5 h.size #[.int .i64 0, .slice (some ⟨h.size + 1, 0, none⟩) 265 265, .slice (some ⟨h.size + 2, 0, none⟩) 265 265, .slice (some ⟨h.size + 3, 0, none⟩) 64 64, .slice (some ⟨h.size + 4, 0, none⟩) 1024 1024, .int .i64 0, .slice (some ⟨h.size + 5, 0, none⟩) 529 529, .slice none 0 0, .slice none 0 0, .slice none 0 0, .slice none 0 0, .slice none 0 0, .int .i64 0] 70 := by rw [← hh]; exact (bs4.put 6 _).cong (by simp)
  have hEg5 : Ext (fun b => b = h.size) m4 g5 := by rw [← hh]; exact Ext.put _ _ rfl
  have hsg5 : g5.size = m4.size := by rw [← hh]; exact size_put _ _
  clear hh
  refine S_nil (hK7 _ _ (V_keep [1] (by simp only [proj, lk, reduceIte, Nat.reduceEqDiff]; rfl) ?_)); clear hK7
  refine V_sr T.mix (by kernel_rfl) (fun K8 hK8 => ?_)
  refine S_mv rfl ?_
  refine S_mk T.ei56 rfl rfl (by omega) (by omega) (by omega) (by omega) ?_
  rw [show ((529 : Int)).toNat = 529 from rfl, Nat.mul_one, mkZ_one]
  generalize hh : Array.push g5 _ = m5
  have ba5 : B m5 g5.size (ia 529 (fun _ => 0)) 3 := by rw [← hh]; exact B.new _ _ _
  have hEm5 : Ext (fun _ => False) g5 m5 := by rw [← hh]; exact Ext.push _ _ _
  have hsm5 : m5.size = g5.size + 1 := by rw [← hh]; simp
  clear hh
  have bs5 := bt5.ext hEm5 (fun f => f)
  have hokN : ∀ j, j < 13 → okPut m5 ⟨h.size, j, none⟩ = true := fun j hj => bs5.ok (by simpa using hj)
  rw [show g5.size = h.size + 6 by omega] at ba5
  rw [show g5.size = h.size + 6 by omega]
  refine S_nc rfl ?_
  first | refine S_fa0 T.f70_7 rfl ?_ | refine S_fa T.f70_7 rfl ?_
  refine S_st T.sz56 rfl rfl rfl rfl (by simp (disch := omega) only [hokN]) ?_
  generalize hh : putH _ _ _ = g6
  have bt6 : B g6 h.size #[.int .i64 0, .slice (some ⟨h.size + 1, 0, none⟩) 265 265, .slice (some ⟨h.size + 2, 0, none⟩) 265 265, .slice (some ⟨h.size + 3, 0, none⟩) 64 64, .slice (some ⟨h.size + 4, 0, none⟩) 1024 1024, .int .i64 0, .slice (some ⟨h.size + 5, 0, none⟩) 529 529, .slice (some ⟨h.size + 6, 0, none⟩) 529 529, .slice none 0 0, .slice none 0 0, .slice none 0 0, .slice none 0 0, .int .i64 0] 70 := by rw [← hh]; exact (bs5.put 7 _).cong (by simp)
  have hEg6 : Ext (fun b => b = h.size) m5 g6 := by rw [← hh]; exact Ext.put _ _ rfl
  have hsg6 : g6.size = m5.size := by rw [← hh]; exact size_put _ _
  clear hh
  refine S_nil (hK8 _ _ (V_keep [1] (by simp only [proj, lk, reduceIte, Nat.reduceEqDiff]; rfl) ?_)); clear hK8
  refine V_sr T.mix (by kernel_rfl) (fun K9 hK9 => ?_)
  refine S_mv rfl ?_
  refine S_mk T.ei56 rfl rfl (by omega) (by omega) (by omega) (by omega) ?_
  rw [show ((529 : Int)).toNat = 529 from rfl, Nat.mul_one, mkZ_one]
  generalize hh : Array.push g6 _ = m6
  have ba6 : B m6 g6.size (ia 529 (fun _ => 0)) 3 := by rw [← hh]; exact B.new _ _ _
  have hEm6 : Ext (fun _ => False) g6 m6 := by rw [← hh]; exact Ext.push _ _ _
  have hsm6 : m6.size = g6.size + 1 := by rw [← hh]; simp
  clear hh
  have bs6 := bt6.ext hEm6 (fun f => f)
  have hokN : ∀ j, j < 13 → okPut m6 ⟨h.size, j, none⟩ = true := fun j hj => bs6.ok (by simpa using hj)
  rw [show g6.size = h.size + 7 by omega] at ba6
  rw [show g6.size = h.size + 7 by omega]
  refine S_nc rfl ?_
  first | refine S_fa0 T.f70_8 rfl ?_ | refine S_fa T.f70_8 rfl ?_
  refine S_st T.sz56 rfl rfl rfl rfl (by simp (disch := omega) only [hokN]) ?_
  generalize hh : putH _ _ _ = g7
  have bt7 : B g7 h.size #[.int .i64 0, .slice (some ⟨h.size + 1, 0, none⟩) 265 265, .slice (some ⟨h.size + 2, 0, none⟩) 265 265, .slice (some ⟨h.size + 3, 0, none⟩) 64 64, .slice (some ⟨h.size + 4, 0, none⟩) 1024 1024, .int .i64 0, .slice (some ⟨h.size + 5, 0, none⟩) 529 529, .slice (some ⟨h.size + 6, 0, none⟩) 529 529, .slice (some ⟨h.size + 7, 0, none⟩) 529 529, .slice none 0 0, .slice none 0 0, .slice none 0 0, .int .i64 0] 70 := by rw [← hh]; exact (bs6.put 8 _).cong (by simp)
  have hEg7 : Ext (fun b => b = h.size) m6 g7 := by rw [← hh]; exact Ext.put _ _ rfl
  have hsg7 : g7.size = m6.size := by rw [← hh]; exact size_put _ _
  clear hh
  refine S_nil (hK9 _ _ (V_keep [1] (by simp only [proj, lk, reduceIte, Nat.reduceEqDiff]; rfl) ?_)); clear hK9
  refine V_sr T.mix (by kernel_rfl) (fun K10 hK10 => ?_)
  refine S_mv rfl ?_
  refine S_mk T.ei56 rfl rfl (by omega) (by omega) (by omega) (by omega) ?_
  rw [show ((529 : Int)).toNat = 529 from rfl, Nat.mul_one, mkZ_one]
  generalize hh : Array.push g7 _ = m7
  have ba7 : B m7 g7.size (ia 529 (fun _ => 0)) 3 := by rw [← hh]; exact B.new _ _ _
  have hEm7 : Ext (fun _ => False) g7 m7 := by rw [← hh]; exact Ext.push _ _ _
  have hsm7 : m7.size = g7.size + 1 := by rw [← hh]; simp
  clear hh
  have bs7 := bt7.ext hEm7 (fun f => f)
  have hokN : ∀ j, j < 13 → okPut m7 ⟨h.size, j, none⟩ = true := fun j hj => bs7.ok (by simpa using hj)
  rw [show g7.size = h.size + 8 by omega] at ba7
  rw [show g7.size = h.size + 8 by omega]
  refine S_nc rfl ?_
  first | refine S_fa0 T.f70_9 rfl ?_ | refine S_fa T.f70_9 rfl ?_
  refine S_st T.sz56 rfl rfl rfl rfl (by simp (disch := omega) only [hokN]) ?_
  generalize hh : putH _ _ _ = g8
  have bt8 : B g8 h.size #[.int .i64 0, .slice (some ⟨h.size + 1, 0, none⟩) 265 265, .slice (some ⟨h.size + 2, 0, none⟩) 265 265, .slice (some ⟨h.size + 3, 0, none⟩) 64 64, .slice (some ⟨h.size + 4, 0, none⟩) 1024 1024, .int .i64 0, .slice (some ⟨h.size + 5, 0, none⟩) 529 529, .slice (some ⟨h.size + 6, 0, none⟩) 529 529, .slice (some ⟨h.size + 7, 0, none⟩) 529 529, .slice (some ⟨h.size + 8, 0, none⟩) 529 529, .slice none 0 0, .slice none 0 0, .int .i64 0] 70 := by rw [← hh]; exact (bs7.put 9 _).cong (by simp)
  have hEg8 : Ext (fun b => b = h.size) m7 g8 := by rw [← hh]; exact Ext.put _ _ rfl
  have hsg8 : g8.size = m7.size := by rw [← hh]; exact size_put _ _
  clear hh
  refine S_nil (hK10 _ _ (V_keep [1] (by simp only [proj, lk, reduceIte, Nat.reduceEqDiff]; rfl) ?_)); clear hK10
  refine V_sr T.mix (by kernel_rfl) (fun K11 hK11 => ?_)
  refine S_mv rfl ?_
  refine S_mk T.ei56 rfl rfl (by omega) (by omega) (by omega) (by omega) ?_
  rw [show ((529 : Int)).toNat = 529 from rfl, Nat.mul_one, mkZ_one]
  generalize hh : Array.push g8 _ = m8
  have ba8 : B m8 g8.size (ia 529 (fun _ => 0)) 3 := by rw [← hh]; exact B.new _ _ _
  have hEm8 : Ext (fun _ => False) g8 m8 := by rw [← hh]; exact Ext.push _ _ _
  have hsm8 : m8.size = g8.size + 1 := by rw [← hh]; simp
  clear hh
  have bs8 := bt8.ext hEm8 (fun f => f)
  have hokN : ∀ j, j < 13 → okPut m8 ⟨h.size, j, none⟩ = true := fun j hj => bs8.ok (by simpa using hj)
  rw [show g8.size = h.size + 9 by omega] at ba8
  rw [show g8.size = h.size + 9 by omega]
  refine S_nc rfl ?_
  first | refine S_fa0 T.f70_10 rfl ?_ | refine S_fa T.f70_10 rfl ?_
  refine S_st T.sz56 rfl rfl rfl rfl (by simp (disch := omega) only [hokN]) ?_
  generalize hh : putH _ _ _ = g9
  have bt9 : B g9 h.size #[.int .i64 0, .slice (some ⟨h.size + 1, 0, none⟩) 265 265, .slice (some ⟨h.size + 2, 0, none⟩) 265 265, .slice (some ⟨h.size + 3, 0, none⟩) 64 64, .slice (some ⟨h.size + 4, 0, none⟩) 1024 1024, .int .i64 0, .slice (some ⟨h.size + 5, 0, none⟩) 529 529, .slice (some ⟨h.size + 6, 0, none⟩) 529 529, .slice (some ⟨h.size + 7, 0, none⟩) 529 529, .slice (some ⟨h.size + 8, 0, none⟩) 529 529, .slice (some ⟨h.size + 9, 0, none⟩) 529 529, .slice none 0 0, .int .i64 0] 70 := by rw [← hh]; exact (bs8.put 10 _).cong (by simp)
  have hEg9 : Ext (fun b => b = h.size) m8 g9 := by rw [← hh]; exact Ext.put _ _ rfl
  have hsg9 : g9.size = m8.size := by rw [← hh]; exact size_put _ _
  clear hh
  refine S_nil (hK11 _ _ (V_keep [1] (by simp only [proj, lk, reduceIte, Nat.reduceEqDiff]; rfl) ?_)); clear hK11
  refine V_sr T.mix (by kernel_rfl) (fun K12 hK12 => ?_)
  refine S_mv rfl ?_
  refine S_mk T.ei56 rfl rfl (by omega) (by omega) (by omega) (by omega) ?_
  rw [show ((265 : Int)).toNat = 265 from rfl, Nat.mul_one, mkZ_one]
  generalize hh : Array.push g9 _ = m9
  have ba9 : B m9 g9.size (ia 265 (fun _ => 0)) 3 := by rw [← hh]; exact B.new _ _ _
  have hEm9 : Ext (fun _ => False) g9 m9 := by rw [← hh]; exact Ext.push _ _ _
  have hsm9 : m9.size = g9.size + 1 := by rw [← hh]; simp
  clear hh
  have bs9 := bt9.ext hEm9 (fun f => f)
  have hokN : ∀ j, j < 13 → okPut m9 ⟨h.size, j, none⟩ = true := fun j hj => bs9.ok (by simpa using hj)
  rw [show g9.size = h.size + 10 by omega] at ba9
  rw [show g9.size = h.size + 10 by omega]
  refine S_nc rfl ?_
  first | refine S_fa0 T.f70_11 rfl ?_ | refine S_fa T.f70_11 rfl ?_
  refine S_st T.sz56 rfl rfl rfl rfl (by simp (disch := omega) only [hokN]) ?_
  generalize hh : putH _ _ _ = g10
  have bt10 : B g10 h.size #[.int .i64 0, .slice (some ⟨h.size + 1, 0, none⟩) 265 265, .slice (some ⟨h.size + 2, 0, none⟩) 265 265, .slice (some ⟨h.size + 3, 0, none⟩) 64 64, .slice (some ⟨h.size + 4, 0, none⟩) 1024 1024, .int .i64 0, .slice (some ⟨h.size + 5, 0, none⟩) 529 529, .slice (some ⟨h.size + 6, 0, none⟩) 529 529, .slice (some ⟨h.size + 7, 0, none⟩) 529 529, .slice (some ⟨h.size + 8, 0, none⟩) 529 529, .slice (some ⟨h.size + 9, 0, none⟩) 529 529, .slice (some ⟨h.size + 10, 0, none⟩) 265 265, .int .i64 0] 70 := by rw [← hh]; exact (bs9.put 11 _).cong (by simp)
  have hEg10 : Ext (fun b => b = h.size) m9 g10 := by rw [← hh]; exact Ext.put _ _ rfl
  have hsg10 : g10.size = m9.size := by rw [← hh]; exact size_put _ _
  clear hh
  refine S_nil (hK12 _ _ (V_keep [1] (by simp only [proj, lk, reduceIte, Nat.reduceEqDiff]; rfl) ?_)); clear hK12
  refine V_sr T.mix (by kernel_rfl) (fun K13 hK13 => ?_)
  refine S_mv rfl ?_
  refine S_as rfl ?_
  refine S_nil (hK13 _ _ (V_keep [0] (by simp only [proj, lk, reduceIte, Nat.reduceEqDiff]; rfl) ?_)); clear hK13
  refine V_ret ?_
  refine hR _ _ (ret1 rfl rfl ?_)
  exact ⟨rfl, ⟨bt10, ((((((((((((((((((ba0.ext hEg1 (fun e => by omega)).ext hEm1 (fun f => f)).ext hEg2 (fun e => by omega)).ext hEm2 (fun f => f)).ext hEg3 (fun e => by omega)).ext hEm3 (fun f => f)).ext hEg4 (fun e => by omega)).ext hEm4 (fun f => f)).ext hEg5 (fun e => by omega)).ext hEm5 (fun f => f)).ext hEg6 (fun e => by omega)).ext hEm6 (fun f => f)).ext hEg7 (fun e => by omega)).ext hEm7 (fun f => f)).ext hEg8 (fun e => by omega)).ext hEm8 (fun f => f)).ext hEg9 (fun e => by omega)).ext hEm9 (fun f => f)).ext hEg10 (fun e => by omega), ((((((((((((((((ba1.ext hEg2 (fun e => by omega)).ext hEm2 (fun f => f)).ext hEg3 (fun e => by omega)).ext hEm3 (fun f => f)).ext hEg4 (fun e => by omega)).ext hEm4 (fun f => f)).ext hEg5 (fun e => by omega)).ext hEm5 (fun f => f)).ext hEg6 (fun e => by omega)).ext hEm6 (fun f => f)).ext hEg7 (fun e => by omega)).ext hEm7 (fun f => f)).ext hEg8 (fun e => by omega)).ext hEm8 (fun f => f)).ext hEg9 (fun e => by omega)).ext hEm9 (fun f => f)).ext hEg10 (fun e => by omega), ((((((((((((((ba2.ext hEg3 (fun e => by omega)).ext hEm3 (fun f => f)).ext hEg4 (fun e => by omega)).ext hEm4 (fun f => f)).ext hEg5 (fun e => by omega)).ext hEm5 (fun f => f)).ext hEg6 (fun e => by omega)).ext hEm6 (fun f => f)).ext hEg7 (fun e => by omega)).ext hEm7 (fun f => f)).ext hEg8 (fun e => by omega)).ext hEm8 (fun f => f)).ext hEg9 (fun e => by omega)).ext hEm9 (fun f => f)).ext hEg10 (fun e => by omega), ((((((((((((ba3.ext hEg4 (fun e => by omega)).ext hEm4 (fun f => f)).ext hEg5 (fun e => by omega)).ext hEm5 (fun f => f)).ext hEg6 (fun e => by omega)).ext hEm6 (fun f => f)).ext hEg7 (fun e => by omega)).ext hEm7 (fun f => f)).ext hEg8 (fun e => by omega)).ext hEm8 (fun f => f)).ext hEg9 (fun e => by omega)).ext hEm9 (fun f => f)).ext hEg10 (fun e => by omega), ((((((((((ba4.ext hEg5 (fun e => by omega)).ext hEm5 (fun f => f)).ext hEg6 (fun e => by omega)).ext hEm6 (fun f => f)).ext hEg7 (fun e => by omega)).ext hEm7 (fun f => f)).ext hEg8 (fun e => by omega)).ext hEm8 (fun f => f)).ext hEg9 (fun e => by omega)).ext hEm9 (fun f => f)).ext hEg10 (fun e => by omega), ((((((((ba5.ext hEg6 (fun e => by omega)).ext hEm6 (fun f => f)).ext hEg7 (fun e => by omega)).ext hEm7 (fun f => f)).ext hEg8 (fun e => by omega)).ext hEm8 (fun f => f)).ext hEg9 (fun e => by omega)).ext hEm9 (fun f => f)).ext hEg10 (fun e => by omega), ((((((ba6.ext hEg7 (fun e => by omega)).ext hEm7 (fun f => f)).ext hEg8 (fun e => by omega)).ext hEm8 (fun f => f)).ext hEg9 (fun e => by omega)).ext hEm9 (fun f => f)).ext hEg10 (fun e => by omega), ((((ba7.ext hEg8 (fun e => by omega)).ext hEm8 (fun f => f)).ext hEg9 (fun e => by omega)).ext hEm9 (fun f => f)).ext hEg10 (fun e => by omega), ((ba8.ext hEg9 (fun e => by omega)).ext hEm9 (fun f => f)).ext hEg10 (fun e => by omega), ba9.ext hEg10 (fun e => by omega)⟩, ((((((((((((((((((((hEh1).trans hEm0).step hEg1 (fun b hb e => by omega)).trans hEm1).step hEg2 (fun b hb e => by omega)).trans hEm2).step hEg3 (fun b hb e => by omega)).trans hEm3).step hEg4 (fun b hb e => by omega)).trans hEm4).step hEg5 (fun b hb e => by omega)).trans hEm5).step hEg6 (fun b hb e => by omega)).trans hEm6).step hEg7 (fun b hb e => by omega)).trans hEm7).step hEg8 (fun b hb e => by omega)).trans hEm8).step hEg9 (fun b hb e => by omega)).trans hEm9).step hEg10 (fun b hb e => by omega)⟩
set_option maxHeartbeats 400000 in
theorem hmnew_spec (h : Heap) :
    FC Tryz.prog 26 (#[] : Array Value) h fun rv h' => rv = .pointer (some ⟨h.size, 0, none⟩) ∧ MK h' h.size none none (fun _ => 0) 0 ∧ Ext (fun _ => False) h h' := by
  refine FC_of [] Tryz.func26 rfl Tryz.ntmps26 (by simp) rfl (fun R hR => ?_)
  refine V_sr T.mix (by kernel_rfl) (fun K1 hK1 => ?_)
  refine S_as rfl ?_
  refine S_nil (hK1 _ _ (V_keep [] (by simp only [proj, lk, reduceIte, Nat.reduceEqDiff]; rfl) ?_)); clear hK1
  refine V_sr T.mix (by kernel_rfl) (fun K2 hK2 => ?_)
  refine S_bld rfl (T.bld110) ?_
  refine S_boxA rfl ?_
  generalize hh : Array.push h _ = h1
  have bx : B h1 h.size #[.slice none 0 0, .slice none 0 0] 110 := by rw [← hh]; exact B.new _ _ _
  have hEh1 : Ext (fun _ => False) h h1 := by rw [← hh]; exact Ext.push _ _ _
  have hsh1 : h1.size = h.size + 1 := by rw [← hh]; simp
  clear hh
  refine S_as rfl ?_
  refine S_nil (hK2 _ _ (V_keep [0] (by simp only [proj, lk, reduceIte, Nat.reduceEqDiff]; rfl) ?_)); clear hK2
  refine V_ret ?_
  refine hR _ _ (ret1 rfl rfl ?_)
  exact ⟨rfl, MK.z _ _ bx, hEh1⟩
set_option maxHeartbeats 3200000 in
theorem mbuild_spec (h : Heap) (M : Nat) (la cb : Option Addr) (lg : Nat → Nat) (N : Nat) (k : MK h M la cb lg N) (ca : Option Addr) (cap : Nat) (cl : List Int) (hIc : OL h ca cap cl) (hcM : ∀ b, blkA ca = some b → b ≠ M) :
    FC Tryz.prog 112 (#[.pointer (some ⟨M, 0, none⟩), .slice ca cl.length cap] : Array Value) h fun rv h' => rv = .int .i64 ((lensE cl : Nat) : Int) ∧ (lensE cl ≠ 0 → h = h') ∧ (lensE cl = 0 → ∃ la2 cb2, MK h' M la2 cb2 (cf cl) cl.length ∧ (∀ b, blkA la2 = some b → h.size ≤ b) ∧ (∀ b, blkA cb2 = some b → h.size ≤ b)) ∧ Ext (fun b => b = M) h h' := by
  have hMl := k.t.lt
  refine FC_of [(0, .pointer (some ⟨M, 0, none⟩)), (1, .slice ca cl.length cap)] Tryz.func112 rfl Tryz.ntmps112 (by simp) rfl (fun R hR => ?_)
  refine V_sr T.mix (by kernel_rfl) (fun K1 hK1 => ?_)
  refine S_as rfl ?_
  refine S_nil (hK1 _ _ (V_keep [0, 1] (by simp only [proj, lk, reduceIte, Nat.reduceEqDiff]; rfl) ?_)); clear hK1
  refine V_sr T.mix (by kernel_rfl) (fun K2 hK2 => ?_)
  refine S_mv rfl ?_
  refine S_call T.hb137 rfl ?_
  refine FC.mono (checklens_spec h ca cap cl hIc) ?_
  rintro v' h' ⟨rfl, rfl⟩
  refine S_as rfl ?_
  refine S_nil (hK2 _ _ (V_keep [0, 1, 5] (by simp only [proj, lk, reduceIte, Nat.reduceEqDiff]; rfl) ?_)); clear hK2
  refine V_seq (fun K3 hK3 => ?_)
  refine V_sr T.mix (by kernel_rfl) (fun K4 hK4 => ?_)
  refine S_mv rfl ?_
  refine S_bin rfl rfl rfl ?_
  refine S_nil (hK4 _ _ (V_keep [0, 1, 5, 12] (by simp only [proj, lk, reduceIte, Nat.reduceEqDiff]; rfl) ?_)); clear hK4
  refine V_condp rfl (fun c229 => ?_) (fun c229 => ?_)
  · skip
    refine V_sr T.mix (by kernel_rfl) (fun K5 hK5 => ?_)
    refine S_mv rfl ?_
    refine S_as rfl ?_
    refine S_nil (hK5 _ _ (V_keep [4] (by simp only [proj, lk, reduceIte, Nat.reduceEqDiff]; rfl) ?_)); clear hK5
    refine V_ret ?_
    refine hR _ _ (ret1 rfl rfl ?_)
    exact ⟨rfl, fun _ => rfl, fun e => by omega, Ext.refl _ _⟩
  · skip
    have he0 : lensE cl = 0 := by omega
    obtain ⟨hl5, hok, hlw⟩ := lensE_lw he0
    have hL := hlw.ln
    refine V_skipk [0, 1] (by simp only [proj, lk, reduceIte, Nat.reduceEqDiff]; rfl) ?_
    refine hK3 _ _ ?_; clear hK3
    refine V_sr T.mix (by kernel_rfl) (fun K6 hK6 => ?_)
    refine S_mv rfl ?_
    refine S_mv rfl ?_
    refine S_call T.hb134 rfl ?_
    refine FC.mono (copyints_spec h ca cap cl hIc (by omega)) ?_
    rintro v' h1 ⟨rfl, bl1, hsz1, hE1⟩
    have bt1 := k.t.ext hE1 (fun f => f)
    have hokM : ∀ j, j < 2 → okPut h1 ⟨M, j, none⟩ = true := fun j hj => bt1.ok (by simpa using hj)
    have hz1 := hE1.1
    refine S_nc rfl ?_
    first | refine S_fa0 T.f110_0 rfl ?_ | refine S_fa T.f110_0 rfl ?_
    refine S_st T.sz56 rfl rfl rfl rfl (by simp (disch := omega) only [hokM]) ?_
    generalize hh : putH _ _ _ = h2
    have bt2 : B h2 M #[.slice (some ⟨h.size, 0, none⟩) cl.length cl.length, .slice cb N N] 110 := by rw [← hh]; exact (bt1.put 0 _).cong (by simp)
    have hE2 : Ext (fun b => b = M) h1 h2 := by rw [← hh]; exact Ext.put _ _ rfl
    clear hh
    have bl2 := bl1.ext hE2 (fun e => by omega)
    have hz2 := hE2.1
    refine S_nil (hK6 _ _ (V_keep [0, 1] (by simp only [proj, lk, reduceIte, Nat.reduceEqDiff]; rfl) ?_)); clear hK6
    refine V_sr T.mix (by kernel_rfl) (fun K7 hK7 => ?_)
    refine S_mv rfl ?_
    refine S_mv rfl ?_
    refine S_lenl T.el56 rfl ?_
    refine S_mk T.ei56 rfl rfl (by omega) (by omega) (by omega) (by omega) ?_
    simp only [Int.toNat_natCast, Nat.mul_one, mkZ_one]
    generalize hh : Array.push h2 _ = h3
    have bc3 : B h3 h2.size (ia cl.length (fun _ => 0)) 3 := by rw [← hh]; exact B.new _ _ _
    have hE3 : Ext (fun _ => False) h2 h3 := by rw [← hh]; exact Ext.push _ _ _
    clear hh
    have bt3 := bt2.ext hE3 (fun f => f)
    have bl3 := bl2.ext hE3 (fun f => f)
    have hokM : ∀ j, j < 2 → okPut h3 ⟨M, j, none⟩ = true := fun j hj => bt3.ok (by simpa using hj)
    have hz3 := hE3.1
    refine S_nc rfl ?_
    first | refine S_fa0 T.f110_1 rfl ?_ | refine S_fa T.f110_1 rfl ?_
    refine S_st T.sz56 rfl rfl rfl rfl (by simp (disch := omega) only [hokM]) ?_
    generalize hh : putH _ _ _ = h4
    have bt4 : B h4 M #[.slice (some ⟨h.size, 0, none⟩) cl.length cl.length, .slice (some ⟨h2.size, 0, none⟩) cl.length cl.length] 110 := by rw [← hh]; exact (bt3.put 1 _).cong (by simp)
    have hE4 : Ext (fun b => b = M) h3 h4 := by rw [← hh]; exact Ext.put _ _ rfl
    clear hh
    have bl4 := bl3.ext hE4 (fun e => by omega)
    have bc4 := bc3.ext hE4 (fun e => by omega)
    have hz4 := hE4.1
    have hEo : Ext (fun b => b = M ∨ h.size ≤ b) h h4 := (((hE1.mono fun _ f => f.elim).trans (hE2.mono fun _ e => .inl e)).trans (hE3.mono fun _ f => f.elim)).trans (hE4.mono fun _ e => .inl e)
    refine S_nil (hK7 _ _ (V_keep [0, 1] (by simp only [proj, lk, reduceIte, Nat.reduceEqDiff]; rfl) ?_)); clear hK7
    refine V_sr T.mix (by kernel_rfl) (fun K8 hK8 => ?_)
    refine S_as rfl ?_
    refine S_nil (hK8 _ _ (V_keep [0, 1, 6] (by simp only [proj, lk, reduceIte, Nat.reduceEqDiff]; rfl) ?_)); clear hK8
    refine V_seq (fun K9 hK9 => ?_)
    refine V_sr T.mix (by kernel_rfl) (fun K10 hK10 => ?_)
    refine S_as rfl ?_
    refine S_nil (hK10 _ _ (V_keep [0, 1, 6, 7] (by simp only [proj, lk, reduceIte, Nat.reduceEqDiff]; rfl) ?_)); clear hK10
    refine V_block ?_
    refine V_loop (fun m l h' => ∃ (n vx : Nat) (hk : Heap) (co : Nat → Nat), (1 ≤ n) ∧ (n ≤ 11) ∧ (n ≤ 10 → vx * 2 = fc (cf cl) cl.length n) ∧ (vx ≤ 1024) ∧ (B hk h2.size (ia cl.length co) 3) ∧ (∀ j, j < cl.length → cf cl j < n → co j = cd (cf cl) cl.length j) ∧ (Ext (fun b => b = h2.size) h4 hk) ∧ m = 11 - n ∧ l = [(0, .pointer (some ⟨M, 0, none⟩)), (1, .slice ca cl.length cap), (6, .int .i64 (vx : Int)), (7, .int .i64 (n : Int))] ∧ hk = h') _ ⟨1, 0, h4, fun _ => 0, by omega, by omega, fun _ => rfl, by omega, bc4, fun j hj z => by unfold cd; rw [show cf cl j = 0 by omega]; rfl, Ext.refl _ _, rfl, rfl, rfl⟩ ?_
    rintro m l h' ⟨n, vx, hk, co, hn1, hn2, hvx, hvx1, bc, hco, hEk, rfl, rfl, rfl⟩ K11 hK11
    refine V_seq (fun K12 hK12 => ?_)
    refine V_sr T.mix (by kernel_rfl) (fun K13 hK13 => ?_)
    refine S_mv rfl ?_
    refine S_bin rfl rfl rfl ?_
    refine S_nil (hK13 _ _ (V_keep [0, 1, 6, 7, 26] (by simp only [proj, lk, reduceIte, Nat.reduceEqDiff]; rfl) ?_)); clear hK13
    refine V_condp rfl (fun c235 => ?_) (fun c235 => ?_)
    · skip
      refine V_skipk [0, 1, 6, 7] (by simp only [proj, lk, reduceIte, Nat.reduceEqDiff]; rfl) ?_
      refine hK12 _ _ ?_; clear hK12
      refine V_seq (fun K14 hK14 => ?_)
      refine V_block ?_
      refine V_sr T.mix (by kernel_rfl) (fun K15 hK15 => ?_)
      refine S_mv rfl ?_
      refine S_nshl vx 1 (vx * 2) rfl rfl rfl rfl (by rw [Nat.pow_one]) (by decide) (t64b (by omega)) ?_
      refine S_as rfl ?_
      refine S_nil (hK15 _ _ (V_keep [0, 1, 6, 7] (by simp only [proj, lk, reduceIte, Nat.reduceEqDiff]; rfl) ?_)); clear hK15
      refine V_sr T.mix (by kernel_rfl) (fun K16 hK16 => ?_)
      refine S_as rfl ?_
      refine S_nil (hK16 _ _ (V_keep [0, 1, 6, 7, 8] (by simp only [proj, lk, reduceIte, Nat.reduceEqDiff]; rfl) ?_)); clear hK16
      refine V_block ?_
      refine V_loop (fun m l h' => ∃ (s vs : Nat) (hk : Heap) (co : Nat → Nat), (s ≤ cl.length) ∧ (vs = fc (cf cl) cl.length n + ct (fun t => cf cl t = n) s) ∧ (vs ≤ 1024) ∧ (B hk h2.size (ia cl.length co) 3) ∧ (∀ j, j < cl.length → cf cl j < n ∨ (cf cl j = n ∧ j < s) → co j = cd (cf cl) cl.length j) ∧ (Ext (fun b => b = h2.size) h4 hk) ∧ m = cl.length - s ∧ l = [(0, .pointer (some ⟨M, 0, none⟩)), (1, .slice ca cl.length cap), (6, .int .i64 (vs : Int)), (7, .int .i64 (n : Int)), (8, .int .i64 (s : Int))] ∧ hk = h') _ ⟨0, vx * 2, hk, co, Nat.zero_le _, by rw [hvx (by omega), ct_zero]; rfl, by have h9 := hL.fc_le hn1 (show n ≤ 10 by omega); have h8 := hvx (by omega); omega, bc, fun j hj z => hco j hj (by omega), hEk, rfl, rfl, rfl⟩ ?_
      rintro m l h' ⟨s, vs, hk, co, hs, hvs, hvb, bc, hco, hEk, rfl, rfl, rfl⟩ K17 hK17
      have hfb := hL.fc_le hn1 (show n ≤ 10 by omega)
      have hIk := (hIc.ext hEo (fun b e z => by have h9 := hIc.lt e; rcases z with z | z; (exact hcM b e z); (omega))).ext hEk (fun b e z => by have h9 := hIc.lt e; omega)
      have hoo := ia_ok bc
      obtain ⟨t0, t1⟩ : cellH hk ⟨M, 0, none⟩ = some (.slice (some ⟨h.size, 0, none⟩) cl.length cl.length) ∧ cellH hk ⟨M, 1, none⟩ = some (.slice (some ⟨h2.size, 0, none⟩) cl.length cl.length) := ⟨(bt4.ext hEk (fun e => by omega)).cell 0, (bt4.ext hEk (fun e => by omega)).cell 1⟩
      refine V_seq (fun K18 hK18 => ?_)
      refine V_sr T.mix (by kernel_rfl) (fun K19 hK19 => ?_)
      refine S_mv rfl ?_
      refine S_mv rfl ?_
      refine S_lenl T.el56 rfl ?_
      refine S_bin rfl rfl rfl ?_
      refine S_nil (hK19 _ _ (V_keep [0, 1, 6, 7, 8, 34] (by simp only [proj, lk, reduceIte, Nat.reduceEqDiff]; rfl) ?_)); clear hK19
      refine V_condp rfl (fun c237 => ?_) (fun c237 => ?_)
      · skip
        obtain ⟨ab, ao, habe, _, hat⟩ := hIk.get (by omega)
        subst habe
        have hcf := cf_at (hok s (by omega)).1
        refine V_skipk [0, 1, 6, 7, 8] (by simp only [proj, lk, reduceIte, Nat.reduceEqDiff]; rfl) ?_
        refine hK18 _ _ ?_; clear hK18
        refine V_seq (fun K20 hK20 => ?_)
        refine V_block ?_
        refine V_sr T.mix (by kernel_rfl) (fun K21 hK21 => ?_)
        refine S_mv rfl ?_
        refine S_mv rfl ?_
        first | refine S_ixn T.el56 rfl rfl (by omega) ?_ | refine S_ix1 T.el56 rfl rfl (by omega) (by omega) ?_ | refine S_ix T.el56 rfl rfl (by omega) (by omega) ?_
        refine S_ldK T.ag3 rfl (fun K' hK' => ?_)
        simp (disch := omega) only [hat, Nat.mul_one, Int.toNat_natCast, oP_some, Nat.add_zero]
        refine hK' _ ?_; clear hK' K'
        refine S_mv rfl ?_
        refine S_bin rfl rfl rfl ?_
        refine S_nil (hK21 _ _ (V_keep [0, 1, 6, 7, 8, 42] (by simp only [proj, lk, reduceIte, Nat.reduceEqDiff]; rfl) ?_)); clear hK21
        refine V_condp rfl (fun c238 => ?_) (fun c238 => ?_)
        · skip
          refine V_srM #[0, 1, 2, 3, 4, 5, 6, 7, 8, 9] [0, 1, 2, 3, 4, 5, 6] 7 [8, 9] T.mix (by kernel_rfl) rfl ⟨rfl, rfl⟩ (fun K22 hK22 => ?_)
          refine S_mv rfl ?_
          refine S_nc rfl ?_
          first | refine S_fa0 T.f110_1 rfl ?_ | refine S_fa T.f110_1 rfl ?_
          refine S_ldK T.ag56 rfl (fun K' hK' => ?_)
          simp (disch := omega) only [t0, t1, oP_some, Nat.add_zero]
          refine hK' _ ?_; clear hK' K'
          refine S_mv rfl ?_
          refine S_mv rfl ?_
          refine S_mv rfl ?_
          refine S_nil ?_
          refine SM_call T.hb138 rfl ?_
          have hss : cf cl s = n := by omega
          have hrk := rk_lt (l := cf cl) (N := cl.length) (show s < cl.length by omega)
          have hvv : vv (cf cl) cl.length s = vs := by unfold vv rk; rw [hss, hvs]
          rw [hss] at hrk
          have hcd_ : Huf.rv vs n = cd (cf cl) cl.length s := by unfold cd; rw [hvv, hss]
          refine FC.mono (turn_spec hk vs n (by omega) (by omega)) ?_
          rintro v' h' ⟨rfl, rfl⟩
          first | refine ⟨Grows.refl _, ?_⟩ | refine ⟨Grows.of_ext (by assumption), ?_⟩
          first | refine S_ixn T.el56 rfl rfl (by omega) ?_ | refine S_ix1 T.el56 rfl rfl (by omega) (by omega) ?_ | refine S_ix T.el56 rfl rfl (by omega) (by omega) ?_
          refine S_st T.sz3 rfl rfl rfl rfl (by simp (disch := omega) only [hoo]) ?_
          generalize hh : putH _ _ _ = h5
          have bc5 : B h5 h2.size (ia cl.length (ups co s (Huf.rv vs n))) 3 := by rw [← hh]; exact ia_put bc _ _
          have hE5 : Ext (fun b => b = h2.size) hk h5 := by rw [← hh]; exact Ext.put _ _ rfl
          clear hh
          rw [hcd_] at bc5
          refine S_nil (hK22 _ _ (V_keep [0, 1, 6, 7, 8] (by simp only [proj, lk, reduceIte, Nat.reduceEqDiff]; rfl) ?_)); clear hK22
          refine V_reg T.mix (by kernel_rfl) ?_
          refine S_mv rfl ?_
          refine S_addN (vs + 1) rfl rfl (by omega) (by omega) ?_
          refine S_as rfl ?_
          refine S_nilk [0, 1, 6, 7, 8] (by simp only [proj, lk, reduceIte, Nat.reduceEqDiff]; rfl) ?_
          refine hK20 _ _ ?_; clear hK20
          refine V_reg T.mix (by kernel_rfl) ?_
          refine S_mv rfl ?_
          first | refine S_add rfl rfl (by omega) (by omega) ?_ | refine S_bin rfl rfl rfl ?_
          refine S_as rfl ?_
          refine S_nilk [0, 1, 6, 7, 8] (by simp only [proj, lk, reduceIte, Nat.reduceEqDiff]; rfl) ?_
          exact hK17 _ _ ⟨_, by omega, s + 1, vs + 1, h5, _, by omega, by rw [ct_succ, if_pos hss, hvs]; rfl, by have h9 : ct (fun t => cf cl t = n) s < cn (cf cl) cl.length n := ct_lt (by omega) hss; omega, bc5, fun j hj z => by by_cases e : j = s; (rw [e, ups_eq]); (rw [ups_ne _ _ e]; exact hco j hj (by omega)), hEk.trans hE5, rfl, rfl, rfl⟩
        · skip
          have hns : ¬ cf cl s = n := by omega
          refine V_skipk [0, 1, 6, 7, 8] (by simp only [proj, lk, reduceIte, Nat.reduceEqDiff]; rfl) ?_
          refine hK20 _ _ ?_; clear hK20
          refine V_reg T.mix (by kernel_rfl) ?_
          refine S_mv rfl ?_
          first | refine S_add rfl rfl (by omega) (by omega) ?_ | refine S_bin rfl rfl rfl ?_
          refine S_as rfl ?_
          refine S_nilk [0, 1, 6, 7, 8] (by simp only [proj, lk, reduceIte, Nat.reduceEqDiff]; rfl) ?_
          exact hK17 _ _ ⟨_, by omega, s + 1, vs, hk, co, by omega, by rw [ct_succ, if_neg hns]; exact hvs, hvb, bc, fun j hj z => hco j hj (by rcases z with z | z; (exact .inl z); (right; refine ⟨z.1, ?_⟩; have : j ≠ s := fun e => hns (e ▸ z.1); omega)), hEk, rfl, rfl, rfl⟩
      · skip
        have hsN : s = cl.length := by omega
        refine V_exitk [0, 1, 6, 7] rfl (by simp only [proj, lk, reduceIte, Nat.reduceEqDiff]; rfl) ?_
        refine hK14 _ _ ?_; clear hK14
        refine V_reg T.mix (by kernel_rfl) ?_
        refine S_mv rfl ?_
        first | refine S_add rfl rfl (by omega) (by omega) ?_ | refine S_bin rfl rfl rfl ?_
        refine S_as rfl ?_
        refine S_nilk [0, 1, 6, 7] (by simp only [proj, lk, reduceIte, Nat.reduceEqDiff]; rfl) ?_
        exact hK11 _ _ ⟨_, by omega, n + 1, vs, hk, co, by omega, by omega, fun z => by rw [fc_succ _ _ hn1, hvs, hsN]; rfl, by omega, bc, fun j hj z => hco j hj (by omega), hEk, rfl, rfl, rfl⟩
    · skip
      refine V_exitk [] rfl (by simp only [proj, lk, reduceIte, Nat.reduceEqDiff]; rfl) ?_
      refine hK9 _ _ ?_; clear hK9
      refine V_sr T.mix (by kernel_rfl) (fun K23 hK23 => ?_)
      refine S_as rfl ?_
      refine S_nil (hK23 _ _ (V_keep [4] (by simp only [proj, lk, reduceIte, Nat.reduceEqDiff]; rfl) ?_)); clear hK23
      refine V_ret ?_
      refine hR _ _ (ret1 rfl rfl ?_)
      have hblf : B hk h.size (ia cl.length (cf cl)) 3 := by have h9 := bl4.ext hEk (fun e => by omega); have h8 : BL hk h.size cl := h9; rw [okL_il hok] at h8; exact h8.il
      have hbcf : B hk h2.size (ia cl.length (cd (cf cl) cl.length)) 3 := ia_cong bc (fun j hj => hco j hj (by have h9 := hL.le j hj; omega))
      exact ⟨by rw [he0]; rfl, fun e => absurd he0 e, fun _ => ⟨_, _, ⟨bt4.ext hEk (fun e => by omega), IL.of hblf, IL.of hbcf, hlw, hl5⟩, fun b e => by cases e; exact Nat.le_refl _, fun b e => by cases e; show h.size ≤ h2.size; omega⟩, (hEo.trans (hEk.mono fun b e => .inr (by omega))).1, fun b hb hn => (hEo.trans (hEk.mono fun b e => .inr (by omega))).2 b hb (fun e => by rcases e with e | e; (exact hn e); (omega))⟩
end Go.Proofs.Qxb6500404aGreat.HufW
