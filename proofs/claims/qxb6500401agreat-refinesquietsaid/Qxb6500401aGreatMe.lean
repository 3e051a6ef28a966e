import Derived.Test.Qxb6500401aGreatMd
import Derived.Test.Qxb6500401aGreatCp
set_option linter.unusedVariables false
set_option linter.unusedSimpArgs false
namespace Go.Proofs.Qxb6500401aGreat
open Go.Eng Go.Trl Go.Chk Go.Wat Go.Cnf

theorem IL.cut {h : Heap} {a : Option Addr} {cap : Nat} {l : List Int} (ho : IL h a cap l) : IL h a cap [] := by
  rcases ho with ⟨h1, h2, _, _⟩ | ⟨b, cs, h1, h2, h3, h4, _, _, _⟩
  · exact .inl ⟨h1, h2, rfl, rfl⟩
  · exact .inr ⟨b, cs, h1, h2, h3, h4, Nat.zero_le _, rfl, fun j hj => by simp [ints] at hj⟩
def mdA (s : TS) (j : Nat) : Int := if valO s ((j + 1 : Nat) : Int) = 1 then ((j + 1 : Nat) : Int) else -((j + 1 : Nat) : Int)
def mdF (s : TS) : List Int := (List.range 12).map (mdA s)
theorem md_len (s : TS) : (mdF s).length = 12 := by simp [mdF]
theorem md_at (s : TS) {j : Nat} (h : j < 12) : (mdF s).getD j 0 = mdA s j := by unfold mdF; simp [h]
theorem SX.cut {h h' : Heap} {V P X C K : Nat} {la : Option Addr} {lc : Nat} {Q : SR} {lg : List Int} {W : WC} {cl : Nat → Option (List Int)} {s : TS} {p : Nat} (w : SX h V P X C K la lc Q lg W cl s p) (he : Ext (fun b => b = V) h h') (hb : SB h' V P X C K la 0 lc Q) : SX h' V P X C K la lc Q [] W cl s p :=
  ⟨hb, w.wx.ext he (fun e => w.ne.2.1 e.symm) (fun e => w.ne.1 e.symm), w.lb.ext he (fun e => w.ne.2.2.1 e.symm), (w.lo.ext he (fun b e f => (w.lne b e).1 f)).cut, w.ne, w.lne⟩
set_option maxHeartbeats 1600000 in
theorem satisfied_spec (h : Heap) (V P X C K : Nat) (la : Option Addr) (lc : Nat) (Q : SR) (lg : List Int) (W : WC) (cl : Nat → Option (List Int)) (s : TS) (p : Nat) (w : SX h V P X C K la lc Q lg W cl s p) :
    FC Tryz.prog 62 (#[.pointer (some ⟨V, 0, none⟩)] : Array Value) h fun rv h' => ∃ ma, rv = .agg #[.int .i64 0, .int .i64 0, .bool true, .slice ma 12 12, .string ⟨#[]⟩, .int .i64 (Q.cf : Int), .int .i64 (Q.rs : Int)] ∧ IL h' ma 12 (mdF s) ∧ (∀ b, blkA ma = some b → h.size ≤ b) ∧ SX h' V P X C K la lc Q [] W cl s p ∧ SEx V X C K h h' la la := by
  have hB := w.sb
  have hlt := w.lt
  refine FC_of [(0, .pointer (some ⟨V, 0, none⟩))] Tryz.func62 rfl Tryz.ntmps62 (by simp) rfl (fun R hR => ?_)
  refine V_sr T.mix (by kernel_rfl) (fun K1 hK1 => ?_)
  refine S_allocA T.z82 ?_
  generalize hh : Array.push h _ = hA
  have hRA : B hA h.size #[.int .i64 0, .int .i64 0, .bool false, .slice none 0 0, .string ⟨#[]⟩, .int .i64 0, .int .i64 0] 82 := by rw [← hh]; exact B.new _ _ _
  have hEhA : Ext (fun _ => False) h hA := by rw [← hh]; exact Ext.push _ _ _
  have hshA : hA.size = h.size + 1 := by rw [← hh]; simp
  clear hh
  have wA := w.new hEhA
  clear hB
  have hB := wA.sb
  try clear hRok
  have hRok : ∀ j, j < 7 → okPut hA ⟨h.size, j, none⟩ = true := fun j hj => (hRA).ok (by simpa using hj)
  refine S_nil (hK1 _ _ (V_keep [0, 2] (by simp only [proj, lk, reduceIte, Nat.reduceEqDiff]; rfl) ?_)); clear hK1
  refine V_sr T.mix (by kernel_rfl) (fun K2 hK2 => ?_)
  refine S_mk T.ei49 rfl rfl (by omega) (by omega) (by omega) (by omega) ?_
  generalize hh : Array.push hA _ = h2
  have hmA : B h2 hA.size (arr 12 fun _ => .int .i64 0) 3 := by rw [← hh]; exact (B.new _ _ _).cong (by kernel_rfl)
  have hE2 : Ext (fun _ => False) hA h2 := by rw [← hh]; exact Ext.push _ _ _
  have hs2 : h2.size = hA.size + 1 := by rw [← hh]; simp
  clear hh
  have w2 := wA.new hE2
  have hR2 := hRA.ext hE2 (fun f => f)
  clear hB
  have hB := w2.sb
  refine S_as rfl ?_
  refine S_nil (hK2 _ _ (V_keep [0, 2, 3] (by simp only [proj, lk, reduceIte, Nat.reduceEqDiff]; rfl) ?_)); clear hK2
  refine V_seq (fun K3 hK3 => ?_)
  refine V_sr T.mix (by kernel_rfl) (fun K4 hK4 => ?_)
  refine S_as rfl ?_
  refine S_nil (hK4 _ _ (V_keep [0, 2, 3, 4] (by simp only [proj, lk, reduceIte, Nat.reduceEqDiff]; rfl) ?_)); clear hK4
  refine V_block ?_
  refine V_loop (fun m l h' => ∃ (k : Nat) (hk : Heap) (gv : Nat → Value), (1 ≤ k) ∧ (k ≤ 13) ∧ (B hk hA.size (arr 12 gv) 3) ∧ (∀ j, j < k - 1 → gv j = .int .i64 (mdA s j)) ∧ (Ext (fun z => z = hA.size) h2 hk) ∧ m = 13 - k ∧ l = [(0, .pointer (some ⟨V, 0, none⟩)), (2, .pointer (some ⟨h.size, 0, none⟩)), (3, .slice (some ⟨hA.size, 0, none⟩) 12 12), (4, .int .i64 (k : Int))] ∧ hk = h') _ ⟨1, h2, fun _ => .int .i64 0, by omega, by omega, hmA, fun j hj => by omega, Ext.refl _ _, rfl, rfl, rfl⟩ ?_
  rintro m l h' ⟨k, hk, gv, hk1, hk2, hmB, hgv, hEk, rfl, rfl, rfl⟩ K5 hK5
  have hE2k : Ext (fun _ => False) hA hk := hE2.step hEk (fun z hz e => by omega)
  have wk := wA.new hE2k
  have hRk := hR2.ext hEk (fun e => by omega)
  clear hB
  have hB := wk.sb
  try clear hRok
  have hRok : ∀ j, j < 7 → okPut hk ⟨h.size, j, none⟩ = true := fun j hj => (hRk).ok (by simpa using hj)
  refine V_seq (fun K6 hK6 => ?_)
  refine V_sr T.mix (by kernel_rfl) (fun K7 hK7 => ?_)
  refine S_mv rfl ?_
  refine S_bin rfl rfl rfl ?_
  refine S_nil (hK7 _ _ (V_keep [0, 2, 3, 4, 8] (by simp only [proj, lk, reduceIte, Nat.reduceEqDiff]; rfl) ?_)); clear hK7
  refine V_condp rfl (fun c127 => ?_) (fun c127 => ?_)
  · skip
    refine V_skipk [0, 2, 3, 4] (by simp only [proj, lk, reduceIte, Nat.reduceEqDiff]; rfl) ?_
    refine hK6 _ _ ?_; clear hK6
    refine V_seq (fun K8 hK8 => ?_)
    refine V_block ?_
    refine V_sr T.mix (by kernel_rfl) (fun K9 hK9 => ?_)
    refine S_mv rfl ?_
    refine S_nc rfl ?_
    first | refine S_fa0 T.f53_1 rfl ?_ | refine S_fa T.f53_1 rfl ?_
    refine S_ldK T.ag30 rfl (fun K' hK' => ?_)
    simp (disch := omega) only [slP hB, slT hB, slW hB, slL hB, slLog hB, slAct hB, slPh hB, slInc hB, slAl hB, slCt hB, slCf hB, slRs hB, slSi hB, oP_some, Nat.add_zero]
    refine hK' _ ?_; clear hK' K'
    refine S_mv rfl ?_
    refine S_call T.hb75 rfl ?_
    refine FC.mono (value_spec hk X s p wk.wx.t (k : Int)) ?_
    rintro v' h' ⟨rfl, rfl⟩
    refine S_as rfl ?_
    refine S_nil (hK9 _ _ (V_keep [0, 2, 3, 4, 5] (by simp only [proj, lk, reduceIte, Nat.reduceEqDiff]; rfl) ?_)); clear hK9
    refine V_sr T.mix (by kernel_rfl) (fun K10 hK10 => ?_)
    refine S_mv rfl ?_
    refine S_mv rfl ?_
    refine S_subN (k - 1) rfl rfl (by omega) (by omega) ?_
    refine S_mv rfl ?_
    first | refine S_neg rfl (by omega) (by omega) ?_ | refine S_un rfl rfl ?_
    first | refine S_ixn T.el49 rfl rfl (by omega) ?_ | refine S_ix1 T.el49 rfl rfl (by omega) (by omega) ?_ | refine S_ix T.el49 rfl rfl (by omega) (by omega) ?_
    refine S_st T.sz3 rfl rfl rfl rfl (by simp (disch := omega) only [B.okA hmB]) ?_
    generalize hh : putH _ _ _ = h4
    have hmC : B h4 hA.size (arr 12 fun j => if j = k - 1 then .int .i64 (-(k : Int)) else gv j) 3 := by rw [← hh]; exact hmB.putA _ _
    have hE4 : Ext (fun z => z = hA.size) hk h4 := by rw [← hh]; exact Ext.put _ _ rfl
    clear hh
    refine S_nil (hK10 _ _ (V_keep [0, 2, 3, 4, 5] (by simp only [proj, lk, reduceIte, Nat.reduceEqDiff]; rfl) ?_)); clear hK10
    refine V_sr T.mix (by kernel_rfl) (fun K11 hK11 => ?_)
    refine S_mv rfl ?_
    refine S_bin rfl rfl rfl ?_
    refine S_nil (hK11 _ _ (V_keep [0, 2, 3, 4, 24] (by simp only [proj, lk, reduceIte, Nat.reduceEqDiff]; rfl) ?_)); clear hK11
    refine V_condp rfl (fun c130 => ?_) (fun c130 => ?_)
    · skip
      refine V_reg T.mix (by kernel_rfl) ?_
      refine S_mv rfl ?_
      refine S_mv rfl ?_
      refine S_subN (k - 1) rfl rfl (by omega) (by omega) ?_
      refine S_mv rfl ?_
      first | refine S_ixn T.el49 rfl rfl (by omega) ?_ | refine S_ix1 T.el49 rfl rfl (by omega) (by omega) ?_ | refine S_ix T.el49 rfl rfl (by omega) (by omega) ?_
      refine S_st T.sz3 rfl rfl rfl rfl (by simp (disch := omega) only [B.okA hmC]) ?_
      generalize hh : putH _ _ _ = h5
      have hmD : B h5 hA.size (arr 12 fun j => if j = k - 1 then .int .i64 (k : Int) else (if j = k - 1 then .int .i64 (-(k : Int)) else gv j)) 3 := by rw [← hh]; exact hmC.putA _ _
      have hE5 : Ext (fun z => z = hA.size) h4 h5 := by rw [← hh]; exact Ext.put _ _ rfl
      clear hh
      refine S_nilk [0, 2, 3, 4] (by simp only [proj, lk, reduceIte, Nat.reduceEqDiff]; rfl) ?_
      refine hK8 _ _ ?_; clear hK8
      refine V_reg T.mix (by kernel_rfl) ?_
      refine S_mv rfl ?_
      first | refine S_add rfl rfl (by omega) (by omega) ?_ | refine S_bin rfl rfl rfl ?_
      refine S_as rfl ?_
      refine S_nilk [0, 2, 3, 4] (by simp only [proj, lk, reduceIte, Nat.reduceEqDiff]; rfl) ?_
      exact hK5 _ _ ⟨_, by omega, k + 1, h5, _, by omega, by omega, hmD, fun j hj => by by_cases e : j = k - 1; (rw [if_pos e, e]; unfold mdA; rw [show k - 1 + 1 = k by omega, if_pos c130]); (rw [if_neg e, if_neg e]; exact hgv j (by omega)), (hEk.trans hE4).trans hE5, rfl, rfl, rfl⟩
    · skip
      refine V_skipk [0, 2, 3, 4] (by simp only [proj, lk, reduceIte, Nat.reduceEqDiff]; rfl) ?_
      refine hK8 _ _ ?_; clear hK8
      refine V_reg T.mix (by kernel_rfl) ?_
      refine S_mv rfl ?_
      first | refine S_add rfl rfl (by omega) (by omega) ?_ | refine S_bin rfl rfl rfl ?_
      refine S_as rfl ?_
      refine S_nilk [0, 2, 3, 4] (by simp only [proj, lk, reduceIte, Nat.reduceEqDiff]; rfl) ?_
      exact hK5 _ _ ⟨_, by omega, k + 1, h4, _, by omega, by omega, hmC, fun j hj => by by_cases e : j = k - 1; (rw [if_pos e, e]; unfold mdA; rw [show k - 1 + 1 = k by omega, if_neg c130]); (rw [if_neg e]; exact hgv j (by omega)), hEk.trans hE4, rfl, rfl, rfl⟩
  · skip
    refine V_exitk [0, 2, 3] rfl (by simp only [proj, lk, reduceIte, Nat.reduceEqDiff]; rfl) ?_
    refine hK3 _ _ ?_; clear hK3
    refine V_sr T.mix (by kernel_rfl) (fun K12 hK12 => ?_)
    refine S_mv rfl ?_
    refine S_mv rfl ?_
    refine S_nc rfl ?_
    first | refine S_fa0 T.f53_4 rfl ?_ | refine S_fa T.f53_4 rfl ?_
    refine S_ldK T.ag49 rfl (fun K' hK' => ?_)
    simp (disch := omega) only [slP hB, slT hB, slW hB, slL hB, slLog hB, slAct hB, slPh hB, slInc hB, slAl hB, slCt hB, slCf hB, slRs hB, slSi hB, oP_some, Nat.add_zero]
    refine hK' _ ?_; clear hK' K'
    refine S_sl rfl rfl rfl (sliceV_cut0 T.el49) ?_
    refine S_nc rfl ?_
    first | refine S_fa0 T.f53_4 rfl ?_ | refine S_fa T.f53_4 rfl ?_
    refine S_st T.sz49 rfl rfl rfl rfl (by simp (disch := omega) only [hRok, sok hB]) ?_
    generalize hh : putH _ _ _ = hz
    have hBhz : SB hz V P X C K la 0 lc Q := by rw [← hh]; exact ssLog hB la 0 lc
    have hEhz : Ext (fun z => z = V) hk hz := by rw [← hh]; exact Ext.put _ _ rfl
    clear hh
    have wz := wk.cut hEhz hBhz
    clear hB
    have hB := wz.sb
    have hRz := hRk.ext hEhz (fun e => by omega)
    have hmZ := hmB.ext hEhz (fun e => by omega)
    try clear hRok
    have hRok : ∀ j, j < 7 → okPut hz ⟨h.size, j, none⟩ = true := fun j hj => (hRz).ok (by simpa using hj)
    refine S_nil (hK12 _ _ (V_keep [0, 2, 3] (by simp only [proj, lk, reduceIte, Nat.reduceEqDiff]; rfl) ?_)); clear hK12
    refine V_sr T.mix (by kernel_rfl) (fun K13 hK13 => ?_)
    refine S_mv rfl ?_
    refine S_mv rfl ?_
    refine S_nc rfl ?_
    first | refine S_fa0 T.f53_10 rfl ?_ | refine S_fa T.f53_10 rfl ?_
    refine S_ldK T.ag3 rfl (fun K' hK' => ?_)
    simp (disch := omega) only [slP hB, slT hB, slW hB, slL hB, slLog hB, slAct hB, slPh hB, slInc hB, slAl hB, slCt hB, slCf hB, slRs hB, slSi hB, oP_some, Nat.add_zero]
    refine hK' _ ?_; clear hK' K'
    refine S_mv rfl ?_
    refine S_nc rfl ?_
    first | refine S_fa0 T.f53_11 rfl ?_ | refine S_fa T.f53_11 rfl ?_
    refine S_ldK T.ag3 rfl (fun K' hK' => ?_)
    simp (disch := omega) only [slP hB, slT hB, slW hB, slL hB, slLog hB, slAct hB, slPh hB, slInc hB, slAl hB, slCt hB, slCf hB, slRs hB, slSi hB, oP_some, Nat.add_zero]
    refine hK' _ ?_; clear hK' K'
    refine S_bld rfl (T.bld82_2_3_5_6 _ _ _ _ _ _) ?_
    refine S_stl T.sz82 rfl rfl rfl rfl (fun j hj => by simp (disch := omega) only [hRok, sok hB]) ?_
    generalize hh : putsH _ _ _ _ = hy
    have hRy : B hy (h.size) #[.int .i64 0, .int .i64 0, .bool true, .slice (some ⟨hA.size, 0, none⟩) 12 12, .string ⟨#[]⟩, .int .i64 (Q.cf : Int), .int .i64 (Q.rs : Int)] 82 := by rw [← hh]; exact B.puts_all (hRz) (cs' := #[.int .i64 0, .int .i64 0, .bool true, .slice (some ⟨hA.size, 0, none⟩) 12 12, .string ⟨#[]⟩, .int .i64 (Q.cf : Int), .int .i64 (Q.rs : Int)]) rfl
    have hEhy : Ext (fun k => k = h.size) hz hy := by rw [← hh]; exact Ext.puts (S := fun k => k = h.size) rfl _ _ _
    clear hh
    refine S_nil (hK13 _ _ (V_keep [2] (by simp only [proj, lk, reduceIte, Nat.reduceEqDiff]; rfl) ?_)); clear hK13
    refine V_ret ?_
    refine hR _ _ (retc1 rfl rfl T.ag82 hRy (by rfl) ?_)
    have hIy : IL hy (some ⟨hA.size, 0, none⟩) 12 (mdF s) := by
      have h9 := IL.new (h := hz) (b := hA.size) (l := mdF s) (hmZ.cong (by rw [md_len]; exact arr_ext fun j hj => by rw [md_at s hj]; exact hgv j (by omega)))
      rw [md_len] at h9
      exact h9.ext hEhy (fun b e f => by simp [blkA] at e; omega)
    have hEy : Ext (fun _ => False) h hk := hEhA.trans hE2k
    refine ⟨_, rfl, hIy, fun b e => by simp [blkA] at e; omega, ?_, ?_⟩
    · exact ⟨wz.sb.ext hEhy (fun e => by omega), wz.wx.ext hEhy (fun e => by omega) (fun e => by omega), wz.lb.ext hEhy (fun e => by omega), wz.lo.ext hEhy (fun b e f => by have h9 := (OwnR.blk2 w.lo e).2; omega), wz.ne, wz.lne⟩
    · exact ⟨((hEy.mono fun _ f => f.elim).trans (hEhz.mono fun z e => .inl e)).step hEhy (fun b hb e => by omega), fun b e => .inl e⟩
set_option maxHeartbeats 1600000 in
theorem refuted_spec (h : Heap) (V P X C K : Nat) (la : Option Addr) (lc : Nat) (Q : SR) (lr : List Rw) (W : WC) (cl : Nat → Option (List Int)) (s : TS) (p : Nat) (w : SX h V P X C K la lc Q (flatR lr) W cl s p) (hN : NrmR lr) (hl2 : (flatR lr).length ≤ 262144) :
    FC Tryz.prog 61 (#[.pointer (some ⟨V, 0, none⟩)] : Array Value) h fun rv h' => rv = .agg #[.int .i64 0, .int .i64 0, .bool false, .slice none 0 0, .string (textOf (printB (flatR lr))), .int .i64 (Q.cf : Int), .int .i64 (Q.rs : Int)] ∧ SX h' V P X C K la lc Q [] W cl s p ∧ SEx V X C K h h' la la := by
  have hB := w.sb
  have hlt := w.lt
  refine FC_of [(0, .pointer (some ⟨V, 0, none⟩))] Tryz.func61 rfl Tryz.ntmps61 (by simp) rfl (fun R hR => ?_)
  refine V_sr T.mix (by kernel_rfl) (fun K1 hK1 => ?_)
  refine S_allocA T.z82 ?_
  generalize hh : Array.push h _ = hA
  have hRA : B hA h.size #[.int .i64 0, .int .i64 0, .bool false, .slice none 0 0, .string ⟨#[]⟩, .int .i64 0, .int .i64 0] 82 := by rw [← hh]; exact B.new _ _ _
  have hEhA : Ext (fun _ => False) h hA := by rw [← hh]; exact Ext.push _ _ _
  have hshA : hA.size = h.size + 1 := by rw [← hh]; simp
  clear hh
  have wA := w.new hEhA
  clear hB
  have hB := wA.sb
  try clear hRok
  have hRok : ∀ j, j < 7 → okPut hA ⟨h.size, j, none⟩ = true := fun j hj => (hRA).ok (by simpa using hj)
  refine S_nil (hK1 _ _ (V_keep [0, 2] (by simp only [proj, lk, reduceIte, Nat.reduceEqDiff]; rfl) ?_)); clear hK1
  refine V_sr T.mix (by kernel_rfl) (fun K2 hK2 => ?_)
  refine S_mv rfl ?_
  refine S_nc rfl ?_
  first | refine S_fa0 T.f53_0 rfl ?_ | refine S_fa T.f53_0 rfl ?_
  refine S_ldK T.ag29 rfl (fun K' hK' => ?_)
  simp (disch := omega) only [slP hB, slT hB, slW hB, slL hB, slLog hB, slAct hB, slPh hB, slInc hB, slAl hB, slCt hB, slCf hB, slRs hB, slSi hB, oP_some, Nat.add_zero]
  refine hK' _ ?_; clear hK' K'
  refine S_mv rfl ?_
  refine S_nc rfl ?_
  first | refine S_fa0 T.f53_4 rfl ?_ | refine S_fa T.f53_4 rfl ?_
  refine S_ldK T.ag49 rfl (fun K' hK' => ?_)
  simp (disch := omega) only [slP hB, slT hB, slW hB, slL hB, slLog hB, slAct hB, slPh hB, slInc hB, slAl hB, slCt hB, slCf hB, slRs hB, slSi hB, oP_some, Nat.add_zero]
  refine hK' _ ?_; clear hK' K'
  refine S_call T.hb99 rfl ?_
  refine FC.mono (ChkW.print_spec hA _ la lc (flatR lr) wA.lo (by omega)) ?_
  rintro v' h1 ⟨rfl, hE1⟩
  rw [ChkW.printF_tree hN hl2]
  have w1 := wA.new hE1
  have hR1 := hRA.ext hE1 (fun f => f)
  clear hB
  have hB := w1.sb
  try clear hRok
  have hRok : ∀ j, j < 7 → okPut h1 ⟨h.size, j, none⟩ = true := fun j hj => (hR1).ok (by simpa using hj)
  refine S_mv rfl ?_
  refine S_ex rfl rfl ?_
  refine S_ex rfl rfl ?_
  refine S_as rfl ?_
  refine S_as rfl ?_
  refine S_nil (hK2 _ _ (V_keep [0, 2, 3] (by simp only [proj, lk, reduceIte, Nat.reduceEqDiff]; rfl) ?_)); clear hK2
  refine V_sr T.mix (by kernel_rfl) (fun K3 hK3 => ?_)
  refine S_mv rfl ?_
  refine S_mv rfl ?_
  refine S_nc rfl ?_
  first | refine S_fa0 T.f53_4 rfl ?_ | refine S_fa T.f53_4 rfl ?_
  refine S_ldK T.ag49 rfl (fun K' hK' => ?_)
  simp (disch := omega) only [slP hB, slT hB, slW hB, slL hB, slLog hB, slAct hB, slPh hB, slInc hB, slAl hB, slCt hB, slCf hB, slRs hB, slSi hB, oP_some, Nat.add_zero]
  refine hK' _ ?_; clear hK' K'
  refine S_sl rfl rfl rfl (sliceV_cut0 T.el49) ?_
  refine S_nc rfl ?_
  first | refine S_fa0 T.f53_4 rfl ?_ | refine S_fa T.f53_4 rfl ?_
  refine S_st T.sz49 rfl rfl rfl rfl (by simp (disch := omega) only [hRok, sok hB]) ?_
  generalize hh : putH _ _ _ = hz
  have hBhz : SB hz V P X C K la 0 lc Q := by rw [← hh]; exact ssLog hB la 0 lc
  have hEhz : Ext (fun z => z = V) h1 hz := by rw [← hh]; exact Ext.put _ _ rfl
  clear hh
  have wz := w1.cut hEhz hBhz
  clear hB
  have hB := wz.sb
  have hRz := hR1.ext hEhz (fun e => by omega)
  try clear hRok
  have hRok : ∀ j, j < 7 → okPut hz ⟨h.size, j, none⟩ = true := fun j hj => (hRz).ok (by simpa using hj)
  refine S_nil (hK3 _ _ (V_keep [0, 2, 3] (by simp only [proj, lk, reduceIte, Nat.reduceEqDiff]; rfl) ?_)); clear hK3
  refine V_sr T.mix (by kernel_rfl) (fun K4 hK4 => ?_)
  refine S_mv rfl ?_
  refine S_mv rfl ?_
  refine S_nc rfl ?_
  first | refine S_fa0 T.f53_10 rfl ?_ | refine S_fa T.f53_10 rfl ?_
  refine S_ldK T.ag3 rfl (fun K' hK' => ?_)
  simp (disch := omega) only [slP hB, slT hB, slW hB, slL hB, slLog hB, slAct hB, slPh hB, slInc hB, slAl hB, slCt hB, slCf hB, slRs hB, slSi hB, oP_some, Nat.add_zero]
  refine hK' _ ?_; clear hK' K'
  refine S_mv rfl ?_
  refine S_nc rfl ?_
  first | refine S_fa0 T.f53_11 rfl ?_ | refine S_fa T.f53_11 rfl ?_
  refine S_ldK T.ag3 rfl (fun K' hK' => ?_)
  simp (disch := omega) only [slP hB, slT hB, slW hB, slL hB, slLog hB, slAct hB, slPh hB, slInc hB, slAl hB, slCt hB, slCf hB, slRs hB, slSi hB, oP_some, Nat.add_zero]
  refine hK' _ ?_; clear hK' K'
  refine S_bld rfl (T.bld82_4_5_6 _ _ _) ?_
  refine S_stl T.sz82 rfl rfl rfl rfl (fun j hj => by simp (disch := omega) only [hRok, sok hB]) ?_
  generalize hh : putsH _ _ _ _ = hy
  have hRy : B hy (h.size) #[.int .i64 0, .int .i64 0, .bool false, .slice none 0 0, .string (textOf (printB (flatR lr))), .int .i64 (Q.cf : Int), .int .i64 (Q.rs : Int)] 82 := by rw [← hh]; exact B.puts_all (hRz) (cs' := #[.int .i64 0, .int .i64 0, .bool false, .slice none 0 0, .string (textOf (printB (flatR lr))), .int .i64 (Q.cf : Int), .int .i64 (Q.rs : Int)]) rfl
  have hEhy : Ext (fun k => k = h.size) hz hy := by rw [← hh]; exact Ext.puts (S := fun k => k = h.size) rfl _ _ _
  clear hh
  refine S_nil (hK4 _ _ (V_keep [2] (by simp only [proj, lk, reduceIte, Nat.reduceEqDiff]; rfl) ?_)); clear hK4
  refine V_ret ?_
  refine hR _ _ (retc1 rfl rfl T.ag82 hRy (by rfl) ?_)
  refine ⟨rfl, ?_, ?_⟩
  · exact ⟨wz.sb.ext hEhy (fun e => by omega), wz.wx.ext hEhy (fun e => by omega) (fun e => by omega), wz.lb.ext hEhy (fun e => by omega), wz.lo.ext hEhy (fun b e f => by have h9 := (OwnR.blk2 w.lo e).2; omega), wz.ne, wz.lne⟩
  · exact ⟨(((hEhA.trans hE1).mono fun _ f => f.elim).trans (hEhz.mono fun z e => .inl e)).step hEhy (fun b hb e => by omega), fun b e => .inl e⟩
end Go.Proofs.Qxb6500401aGreat
