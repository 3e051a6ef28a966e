import Derived.Test.Qxb6500401aGreatTb
import Derived.Test.Qxb6500401aGreatEi
import Derived.Test.Qxb6500401aGreatLp
set_option linter.unusedVariables false
set_option linter.unusedSimpArgs false
namespace Go.Proofs.Qxb6500401aGreat.ChkW
open Go.Eng Go.Cnf

def ints (l : List Int) : List Value := l.map (Value.int .i64)
theorem ints_len (l : List Int) : (ints l).length = l.length := by simp [ints]
theorem ints_one (l : List Int) : ∀ v ∈ ints l, v.oneCell' = true := by intro v hv; simp only [ints, List.mem_map] at hv; obtain ⟨x, _, rfl⟩ := hv; rfl
theorem ints_snoc (l : List Int) (x : Int) : ints (l ++ [x]) = ints l ++ [.int .i64 x] := by simp [ints]
theorem ints_app (l l' : List Int) : ints (l ++ l') = ints l ++ ints l' := by simp [ints]
/-- a row of numbers, from its block's head -/
def IL (h : Heap) (a : Option Addr) (cap : Nat) (l : List Int) : Prop := OwnR 0 h a l.length cap (ints l) 3 1
theorem IL.get {h : Heap} {a : Option Addr} {cap : Nat} {l : List Int} (ho : IL h a cap l) (hl : 0 < l.length) :
    ∃ b, a = some ⟨b, 0, none⟩ ∧ b < h.size ∧ (∀ j, j < l.length → cellH h ⟨b, j, none⟩ = some (.int .i64 (l.getD j 0))) ∧ ∀ j, j < cap → okPut h ⟨b, j, none⟩ = true := by
  obtain ⟨b, h1, _, h2, h3, h4⟩ := OwnR.some ho hl
  refine ⟨b, h1, h2, fun j hj => ?_, fun j hj => h4 j (by omega)⟩
  rw [h3 j (by rw [ints_len]; exact hj)]
  simp [ints, hj]
theorem IL.ext {h h' : Heap} {a : Option Addr} {cap : Nat} {l : List Int} {S : Nat → Prop} (ho : IL h a cap l) (he : Ext S h h') (hS : ∀ b, blkA a = some b → ¬ S b) : IL h' a cap l :=
  OwnR.ext ho he (fun b hb => hS b (by rw [hb]; rfl))
theorem IL.lt {h : Heap} {a : Option Addr} {cap b : Nat} {l : List Int} (ho : IL h a cap l) (hb : blkA a = some b) : b < h.size := (OwnR.blk2 ho hb).2
theorem IL.nil (h : Heap) : IL h none 0 [] := OwnR.nil _ _ _ _
theorem IL.cap {h : Heap} {a : Option Addr} {cap : Nat} {l : List Int} (ho : IL h a cap l) : l.length ≤ cap := (OwnR.len ho).2
theorem IL.new {h : Heap} {b : Nat} {l : List Int} (hb : B h b (arr l.length fun j => .int .i64 (l.getD j 0)) 3) : IL h (some ⟨b, 0, none⟩) l.length l :=
  .inr ⟨b, _, rfl, Nat.zero_le _, hb, by rw [arr_size, Nat.mul_one], Nat.le_refl _, by simp [ints_len], fun j hj => by rw [ints_len] at hj; rw [arr_get hj]; simp [ints, hj]⟩
theorem IL.cut {h : Heap} {a : Option Addr} {cap : Nat} {l : List Int} (ho : IL h a cap l) : IL h a cap [] := by
  rcases ho with ⟨h1, h2, h3, h4⟩ | ⟨b, cs, h1, h2, h3, h4, h5, h6, h7⟩
  · exact .inl ⟨h1, h2, rfl, rfl⟩
  · exact .inr ⟨b, cs, h1, h2, h3, h4, Nat.zero_le _, by simp [ints], fun j hj => by simp [ints] at hj⟩
theorem getD_snoc (l : List Int) (i : Nat) (h : i < l.length) : l.take (i + 1) = l.take i ++ [l.getD i 0] := by
  rw [List.take_add_one]; simp [h]
theorem drop_cons (l : List Int) (i : Nat) (h : i < l.length) : l.drop i = l.getD i 0 :: l.drop (i + 1) := by
  rw [List.drop_eq_getElem_cons h]; simp [h]

theorem last0 {l : List Int} (h : 0 < l.length) : l.getLast? = some 0 ↔ l.getD ((l.length : Int) - 1).toNat 0 = 0 := by
  rw [List.getLast?_eq_getElem?, show ((l.length : Int) - 1).toNat = l.length - 1 by omega, List.getD_eq_getElem?_getD, List.getElem?_eq_getElem (by omega)]; simp
theorem flat_no {l : List Int} (h : ckR ⟨true, 0⟩ l = none) : (if flatOk l = true then (0 : Int) else 6) = 6 := by simp [flatOk, h]
theorem ck13 {sb il : Bool} {la : Nat} {x : Int} (h1 : x = 13) (h2 : sb = true) (h3 : il = false) : ckS ⟨sb, la⟩ x il = some ⟨false, la⟩ := by simp [ckS, h1, h2, h3]
theorem ck13e {sb il : Bool} {la : Nat} {x : Int} (h1 : x = 13) (h2 : sb = true) (h3 : il = true) : ckS ⟨sb, la⟩ x il = none := by simp [ckS, h1, h2, h3]
theorem ck0 {sb il : Bool} {la : Nat} {x : Int} (h1 : x = 0) : ckS ⟨sb, la⟩ x il = some ⟨true, 0⟩ := by simp [ckS, h1]
theorem ckL {sb il : Bool} {la : Nat} {x : Int} (h1 : x ≠ 0 ∧ -12 ≤ x ∧ x ≤ 12) (h2 : ¬ x.natAbs ≤ la) : ckS ⟨sb, la⟩ x il = some ⟨false, x.natAbs⟩ := by
  unfold ckS; rw [if_neg (by omega), if_neg (by omega), if_neg (by omega), if_neg h2]
theorem ckLe {sb il : Bool} {la : Nat} {x : Int} (h1 : x ≠ 0 ∧ -12 ≤ x ∧ x ≤ 12) (h2 : x.natAbs ≤ la) : ckS ⟨sb, la⟩ x il = none := by
  unfold ckS; rw [if_neg (by omega), if_neg (by omega), if_neg (by omega), if_pos h2]
theorem ckB {sb il : Bool} {la : Nat} {x : Int} (h1 : ¬ (x ≠ 0 ∧ -12 ≤ x ∧ x ≤ 12)) (h2 : x ≠ 0) (h3 : ¬ (x = 13 ∧ sb = true)) : ckS ⟨sb, la⟩ x il = none := by
  unfold ckS; rw [if_neg h3, if_neg h2, if_pos h1]
set_option maxHeartbeats 400000 in
theorem var_spec (h : Heap) (x : Int) (h1 : -1000 ≤ x) (h2 : x ≤ 1000) :
    FC Tryz.prog 52 (#[.int .i64 x] : Array Value) h fun v h' => v = .int .i64 x.natAbs ∧ h = h' := by
  refine FC_of [(0, .int .i64 x)] Tryz.func52 rfl Tryz.ntmps52 (by simp) rfl (fun R hR => ?_)
  refine V_sr T.mix (by kernel_rfl) (fun K1 hK1 => ?_)
  refine S_as rfl ?_
  refine S_nil (hK1 _ _ (V_keep [0] (by simp only [proj, lk, reduceIte, Nat.reduceEqDiff]; rfl) ?_)); clear hK1
  refine V_seq (fun K2 hK2 => ?_)
  refine V_sr T.mix (by kernel_rfl) (fun K3 hK3 => ?_)
  refine S_mv rfl ?_
  refine S_bin rfl rfl rfl ?_
  refine S_nil (hK3 _ _ (V_keep [0, 4] (by simp only [proj, lk, reduceIte, Nat.reduceEqDiff]; rfl) ?_)); clear hK3
  refine V_condp rfl (fun c7 => ?_) (fun c7 => ?_)
  · skip
    refine V_sr T.mix (by kernel_rfl) (fun K4 hK4 => ?_)
    refine S_mv rfl ?_
    first | refine S_neg rfl (by omega) (by omega) ?_ | refine S_un rfl rfl ?_
    refine S_as rfl ?_
    refine S_nil (hK4 _ _ (V_keep [2] (by simp only [proj, lk, reduceIte, Nat.reduceEqDiff]; rfl) ?_)); clear hK4
    refine V_ret ?_
    refine hR _ _ (ret1 rfl rfl ?_)
    exact ⟨by congr 1; omega, rfl⟩
  · skip
    refine V_skipk [0] (by simp only [proj, lk, reduceIte, Nat.reduceEqDiff]; rfl) ?_
    refine hK2 _ _ ?_; clear hK2
    refine V_sr T.mix (by kernel_rfl) (fun K5 hK5 => ?_)
    refine S_mv rfl ?_
    refine S_as rfl ?_
    refine S_nil (hK5 _ _ (V_keep [2] (by simp only [proj, lk, reduceIte, Nat.reduceEqDiff]; rfl) ?_)); clear hK5
    refine V_ret ?_
    refine hR _ _ (ret1 rfl rfl ?_)
    exact ⟨by congr 1; omega, rfl⟩
set_option maxHeartbeats 400000 in
theorem goodlit_spec (h : Heap) (x : Int) :
    FC Tryz.prog 100 (#[.int .i64 x] : Array Value) h fun v h' => v = .bool (decide (x ≠ 0 ∧ -12 ≤ x ∧ x ≤ 12)) ∧ h = h' := by
  refine FC_of [(0, .int .i64 x)] Tryz.func100 rfl Tryz.ntmps100 (by simp) rfl (fun R hR => ?_)
  refine V_sr T.mix (by kernel_rfl) (fun K1 hK1 => ?_)
  refine S_as rfl ?_
  refine S_nil (hK1 _ _ (V_keep [0] (by simp only [proj, lk, reduceIte, Nat.reduceEqDiff]; rfl) ?_)); clear hK1
  refine V_sr T.mix (by kernel_rfl) (fun K2 hK2 => ?_)
  refine S_mv rfl ?_
  refine S_bin rfl rfl rfl ?_
  refine S_mv rfl ?_
  refine S_dec (fun g15 => ?_) (fun g15 => ?_)
  · skip
    refine S_gt rfl ?_
    refine S_mv rfl ?_
    refine S_gt rfl ?_
    refine S_bin rfl rfl rfl ?_
    refine S_pt rfl rfl ?_
    refine S_mv rfl ?_
    refine S_dec (fun g15a => ?_) (fun g15a => ?_)
    · skip
      refine S_gt rfl ?_
      refine S_mv rfl ?_
      refine S_gt rfl ?_
      refine S_bin rfl rfl rfl ?_
      refine S_pt rfl rfl ?_
      refine S_as rfl ?_
      refine S_nil (hK2 _ _ (V_keep [2] (by simp only [proj, lk, reduceIte, Nat.reduceEqDiff]; rfl) ?_)); clear hK2
      refine V_ret ?_
      refine hR _ _ (ret1 rfl rfl ?_)
      exact ⟨by congr 1; first | exact decide_eq_decide.2 (by omega) | exact (decide_eq_false (by omega)).symm | exact (decide_eq_true (by omega)).symm, rfl⟩
    · skip
      refine S_gf rfl ?_
      refine S_gf rfl ?_
      refine S_pf rfl rfl ?_
      refine S_as rfl ?_
      refine S_nil (hK2 _ _ (V_keep [2] (by simp only [proj, lk, reduceIte, Nat.reduceEqDiff]; rfl) ?_)); clear hK2
      refine V_ret ?_
      refine hR _ _ (ret1 rfl rfl ?_)
      exact ⟨by congr 1; first | exact decide_eq_decide.2 (by omega) | exact (decide_eq_false (by omega)).symm | exact (decide_eq_true (by omega)).symm, rfl⟩
  · skip
    refine S_gf rfl ?_
    refine S_gf rfl ?_
    refine S_pf rfl rfl ?_
    refine S_mv rfl ?_
    refine S_gf rfl ?_
    refine S_gf rfl ?_
    refine S_pf rfl rfl ?_
    refine S_as rfl ?_
    refine S_nil (hK2 _ _ (V_keep [2] (by simp only [proj, lk, reduceIte, Nat.reduceEqDiff]; rfl) ?_)); clear hK2
    refine V_ret ?_
    refine hR _ _ (ret1 rfl rfl ?_)
    exact ⟨by congr 1; first | exact decide_eq_decide.2 (by omega) | exact (decide_eq_false (by omega)).symm | exact (decide_eq_true (by omega)).symm, rfl⟩
set_option maxHeartbeats 400000 in
theorem sameints_spec (h : Heap) (a b : Option Addr) (ca cb : Nat) (xs ys : List Int) (ho : IL h a ca xs) (hp : IL h b cb ys) (hl : xs.length ≤ 1099511627776) (hm : ys.length ≤ 1099511627776) :
    FC Tryz.prog 36 (#[.slice a xs.length ca, .slice b ys.length cb] : Array Value) h fun v h' => v = .bool (decide (xs = ys)) ∧ h = h' := by
  refine FC_of [(0, .slice a xs.length ca), (1, .slice b ys.length cb)] Tryz.func36 rfl Tryz.ntmps36 (by simp) rfl (fun R hR => ?_)
  refine V_sr T.mix (by kernel_rfl) (fun K1 hK1 => ?_)
  refine S_as rfl ?_
  refine S_nil (hK1 _ _ (V_keep [0, 1] (by simp only [proj, lk, reduceIte, Nat.reduceEqDiff]; rfl) ?_)); clear hK1
  refine V_seq (fun K2 hK2 => ?_)
  refine V_sr T.mix (by kernel_rfl) (fun K3 hK3 => ?_)
  refine S_mv rfl ?_
  refine S_lenl T.el49 rfl ?_
  refine S_mv rfl ?_
  refine S_lenl T.el49 rfl ?_
  refine S_bin rfl rfl rfl ?_
  refine S_nil (hK3 _ _ (V_keep [0, 1, 10] (by simp only [proj, lk, reduceIte, Nat.reduceEqDiff]; rfl) ?_)); clear hK3
  refine V_condp rfl (fun c83 => ?_) (fun c83 => ?_)
  · skip
    refine V_sr T.mix (by kernel_rfl) (fun K4 hK4 => ?_)
    refine S_as rfl ?_
    refine S_nil (hK4 _ _ (V_keep [4] (by simp only [proj, lk, reduceIte, Nat.reduceEqDiff]; rfl) ?_)); clear hK4
    refine V_ret ?_
    refine hR _ _ (ret1 rfl rfl ?_)
    have hne : ¬ xs = ys := fun e => by subst e; exact c83 rfl
    exact ⟨by rw [decide_eq_false hne], rfl⟩
  · skip
    refine V_skipk [0, 1] (by simp only [proj, lk, reduceIte, Nat.reduceEqDiff]; rfl) ?_
    refine hK2 _ _ ?_; clear hK2
    refine V_seq (fun K5 hK5 => ?_)
    refine V_sr T.mix (by kernel_rfl) (fun K6 hK6 => ?_)
    refine S_as rfl ?_
    refine S_nil (hK6 _ _ (V_keep [0, 1, 5] (by simp only [proj, lk, reduceIte, Nat.reduceEqDiff]; rfl) ?_)); clear hK6
    refine V_block ?_
    refine V_loop (fun m l h' => ∃ (i : Nat), (i ≤ xs.length) ∧ (xs.take i = ys.take i) ∧ m = xs.length - i ∧ l = [(0, .slice a xs.length ca), (1, .slice b ys.length cb), (5, .int .i64 i)] ∧ h = h') _ ⟨0, by omega, by simp, rfl, rfl, rfl⟩ ?_
    rintro m l h' ⟨i, hi, hq, rfl, rfl, rfl⟩ K7 hK7
    refine V_seq (fun K8 hK8 => ?_)
    refine V_sr T.mix (by kernel_rfl) (fun K9 hK9 => ?_)
    refine S_mv rfl ?_
    refine S_mv rfl ?_
    refine S_lenl T.el49 rfl ?_
    refine S_bin rfl rfl rfl ?_
    refine S_nil (hK9 _ _ (V_keep [0, 1, 5, 14] (by simp only [proj, lk, reduceIte, Nat.reduceEqDiff]; rfl) ?_)); clear hK9
    refine V_condp rfl (fun c86 => ?_) (fun c86 => ?_)
    · skip
      obtain ⟨ba, rfl, ha2, ha3, _⟩ := IL.get ho (by omega)
      obtain ⟨bb, rfl, hb2, hb3, _⟩ := IL.get hp (by omega)
      refine V_skipk [0, 1, 5] (by simp only [proj, lk, reduceIte, Nat.reduceEqDiff]; rfl) ?_
      refine hK8 _ _ ?_; clear hK8
      refine V_seq (fun K10 hK10 => ?_)
      refine V_block ?_
      refine V_sr T.mix (by kernel_rfl) (fun K11 hK11 => ?_)
      refine S_mv rfl ?_
      refine S_mv rfl ?_
      first | refine S_ixn T.el49 rfl rfl (by omega) ?_ | refine S_ix1 T.el49 rfl rfl (by omega) (by omega) ?_ | refine S_ix T.el49 rfl rfl (by omega) (by omega) ?_
      refine S_ldK T.ag3 rfl (fun K' hK' => ?_)
      simp (disch := omega) only [ha3, hb3, oP_some, Nat.add_zero]
      refine hK' _ ?_; clear hK' K'
      refine S_mv rfl ?_
      refine S_mv rfl ?_
      first | refine S_ixn T.el49 rfl rfl (by omega) ?_ | refine S_ix1 T.el49 rfl rfl (by omega) (by omega) ?_ | refine S_ix T.el49 rfl rfl (by omega) (by omega) ?_
      refine S_ldK T.ag3 rfl (fun K' hK' => ?_)
      simp (disch := omega) only [ha3, hb3, oP_some, Nat.add_zero]
      refine hK' _ ?_; clear hK' K'
      refine S_bin rfl rfl rfl ?_
      refine S_nil (hK11 _ _ (V_keep [0, 1, 5, 25] (by simp only [proj, lk, reduceIte, Nat.reduceEqDiff]; rfl) ?_)); clear hK11
      refine V_condp rfl (fun c87 => ?_) (fun c87 => ?_)
      · skip
        refine V_sr T.mix (by kernel_rfl) (fun K12 hK12 => ?_)
        refine S_as rfl ?_
        refine S_nil (hK12 _ _ (V_keep [4] (by simp only [proj, lk, reduceIte, Nat.reduceEqDiff]; rfl) ?_)); clear hK12
        refine V_ret ?_
        refine hR _ _ (ret1 rfl rfl ?_)
        have hne : ¬ xs = ys := fun e => c87 (by rw [e])
        exact ⟨by rw [decide_eq_false hne], rfl⟩
      · skip
        refine V_skipk [0, 1, 5] (by simp only [proj, lk, reduceIte, Nat.reduceEqDiff]; rfl) ?_
        refine hK10 _ _ ?_; clear hK10
        refine V_reg T.mix (by kernel_rfl) ?_
        refine S_mv rfl ?_
        first | refine S_add rfl rfl (by omega) (by omega) ?_ | refine S_bin rfl rfl rfl ?_
        refine S_as rfl ?_
        refine S_nilk [0, 1, 5] (by simp only [proj, lk, reduceIte, Nat.reduceEqDiff]; rfl) ?_
        exact hK7 _ _ ⟨_, by omega, i + 1, by omega, by rw [getD_snoc xs i (by omega), getD_snoc ys i (by omega), hq]; congr 2; omega, rfl, rfl, rfl⟩
    · skip
      refine V_exitk [] rfl (by simp only [proj, lk, reduceIte, Nat.reduceEqDiff]; rfl) ?_
      refine hK5 _ _ ?_; clear hK5
      refine V_sr T.mix (by kernel_rfl) (fun K13 hK13 => ?_)
      refine S_as rfl ?_
      refine S_nil (hK13 _ _ (V_keep [4] (by simp only [proj, lk, reduceIte, Nat.reduceEqDiff]; rfl) ?_)); clear hK13
      refine V_ret ?_
      refine hR _ _ (ret1 rfl rfl ?_)
      have hlm : xs = ys := by rw [List.take_of_length_le (by omega), List.take_of_length_le (by omega)] at hq; exact hq
      exact ⟨by rw [decide_eq_true hlm], rfl⟩
set_option maxHeartbeats 400000 in
theorem copyints_spec (h : Heap) (a : Option Addr) (cap : Nat) (xs : List Int) (ho : IL h a cap xs) (hl : xs.length ≤ 1099511627776) :
    FC Tryz.prog 87 (#[.slice a xs.length cap] : Array Value) h fun v h' => ∃ a', v = .slice a' xs.length xs.length ∧ IL h' a' xs.length xs ∧ Ext (fun _ => False) h h' ∧ (xs.length = 0 → a' = none) ∧ (∀ b, blkA a' = some b → h.size ≤ b) := by
  refine FC_of [(0, .slice a xs.length cap)] Tryz.func87 rfl Tryz.ntmps87 (by simp) rfl (fun R hR => ?_)
  refine V_sr T.mix (by kernel_rfl) (fun K1 hK1 => ?_)
  refine S_as rfl ?_
  refine S_nil (hK1 _ _ (V_keep [0] (by simp only [proj, lk, reduceIte, Nat.reduceEqDiff]; rfl) ?_)); clear hK1
  refine V_seq (fun K2 hK2 => ?_)
  refine V_sr T.mix (by kernel_rfl) (fun K3 hK3 => ?_)
  refine S_mv rfl ?_
  refine S_lenl T.el49 rfl ?_
  refine S_bin rfl rfl rfl ?_
  refine S_nil (hK3 _ _ (V_keep [0, 6] (by simp only [proj, lk, reduceIte, Nat.reduceEqDiff]; rfl) ?_)); clear hK3
  refine V_condp rfl (fun c73 => ?_) (fun c73 => ?_)
  · skip
    refine V_sr T.mix (by kernel_rfl) (fun K4 hK4 => ?_)
    refine S_as rfl ?_
    refine S_nil (hK4 _ _ (V_keep [2] (by simp only [proj, lk, reduceIte, Nat.reduceEqDiff]; rfl) ?_)); clear hK4
    refine V_ret ?_
    refine hR _ _ (ret1 rfl rfl ?_)
    have hx : xs = [] := List.eq_nil_of_length_eq_zero (by omega)
    subst hx
    exact ⟨none, rfl, IL.nil _, Ext.refl _ _, fun _ => rfl, fun b hb => by simp [blkA] at hb⟩
  · skip
    refine V_skipk [0] (by simp only [proj, lk, reduceIte, Nat.reduceEqDiff]; rfl) ?_
    refine hK2 _ _ ?_; clear hK2
    refine V_sr T.mix (by kernel_rfl) (fun K5 hK5 => ?_)
    refine S_mv rfl ?_
    refine S_lenl T.el49 rfl ?_
    refine S_mk T.ei49 rfl rfl (by omega) (by omega) (by omega) (by omega) ?_
    simp only [Int.toNat_natCast, Nat.mul_one, mkZ_one]
    generalize hh : Array.push h _ = h1
    have hB1 : B h1 h.size (arr xs.length fun _ => .int .i64 0) 3 := by rw [← hh]; exact B.new _ _ _
    have hE1 : Ext (fun _ => False) h h1 := by rw [← hh]; exact Ext.push _ _ _
    have ho1 := ho.ext hE1 (fun _ _ f => f)
    clear hh
    refine S_as rfl ?_
    refine S_nil (hK5 _ _ (V_keep [0, 3] (by simp only [proj, lk, reduceIte, Nat.reduceEqDiff]; rfl) ?_)); clear hK5
    refine V_sr T.mix (by kernel_rfl) (fun K6 hK6 => ?_)
    refine S_mv rfl ?_
    refine S_mv rfl ?_
    refine S_copyx T.el49 rfl (k := xs.length) (by simp) (OwnR.cells ho1) hB1 (by rw [ints_len]; omega) (ints_one _) (fun h2 hB2 hE2 hz2 => ?_)
    refine S_nil (hK6 _ _ (V_keep [3] (by simp only [proj, lk, reduceIte, Nat.reduceEqDiff]; rfl) ?_)); clear hK6
    refine V_sr T.mix (by kernel_rfl) (fun K7 hK7 => ?_)
    refine S_mv rfl ?_
    refine S_as rfl ?_
    refine S_nil (hK7 _ _ (V_keep [2] (by simp only [proj, lk, reduceIte, Nat.reduceEqDiff]; rfl) ?_)); clear hK7
    refine V_ret ?_
    refine hR _ _ (ret1 rfl rfl ?_)
    refine ⟨some ⟨h.size, 0, none⟩, rfl, IL.new ?_, hE1.step hE2 (fun b hb e => by omega), fun e => by omega, fun b hb => by simp [blkA] at hb; omega⟩
    exact hB2.cong (arr_ext fun j hj => by rw [if_pos (by rw [ints_len]; exact hj)]; simp [ints, hj])
set_option maxHeartbeats 400000 in
theorem join_spec (h : Heap) (s u : ByteArray) (hs : s.size ≤ 9223372036854775807) :
    FC Tryz.prog 17 (#[.string s, .string u] : Array Value) h fun v h' => (∃ r, v = .string r ∧ r.size ≤ max s.size 1048577) ∧ h = h' := by
  refine FC_of [(0, .string s), (1, .string u)] Tryz.func17 rfl Tryz.ntmps17 (by simp) rfl (fun R hR => ?_)
  refine V_sr T.mix (by kernel_rfl) (fun K1 hK1 => ?_)
  refine S_as rfl ?_
  refine S_nil (hK1 _ _ (V_keep [0, 1] (by simp only [proj, lk, reduceIte, Nat.reduceEqDiff]; rfl) ?_)); clear hK1
  refine V_sr T.mix (by kernel_rfl) (fun K2 hK2 => ?_)
  refine S_mv rfl ?_
  refine S_lens T.kd9 rfl ?_
  first | refine S_sub rfl rfl (by omega) (by omega) ?_ | refine S_bin rfl rfl rfl ?_
  refine S_as rfl ?_
  refine S_nil (hK2 _ _ (V_keep [0, 1, 5] (by simp only [proj, lk, reduceIte, Nat.reduceEqDiff]; rfl) ?_)); clear hK2
  refine V_seq (fun K3 hK3 => ?_)
  refine V_sr T.mix (by kernel_rfl) (fun K4 hK4 => ?_)
  refine S_mv rfl ?_
  refine S_bin rfl rfl rfl ?_
  refine S_nil (hK4 _ _ (V_keep [0, 1, 5, 10] (by simp only [proj, lk, reduceIte, Nat.reduceEqDiff]; rfl) ?_)); clear hK4
  refine V_condp rfl (fun c97 => ?_) (fun c97 => ?_)
  · skip
    refine V_sr T.mix (by kernel_rfl) (fun K5 hK5 => ?_)
    refine S_mv rfl ?_
    refine S_as rfl ?_
    refine S_nil (hK5 _ _ (V_keep [4] (by simp only [proj, lk, reduceIte, Nat.reduceEqDiff]; rfl) ?_)); clear hK5
    refine V_ret ?_
    refine hR _ _ (ret1 rfl rfl ?_)
    exact ⟨⟨_, rfl, by omega⟩, rfl⟩
  · skip
    refine V_skipk [0, 1, 5] (by simp only [proj, lk, reduceIte, Nat.reduceEqDiff]; rfl) ?_
    refine hK3 _ _ ?_; clear hK3
    refine V_seq (fun K6 hK6 => ?_)
    refine V_sr T.mix (by kernel_rfl) (fun K7 hK7 => ?_)
    refine S_mv rfl ?_
    refine S_lens T.kd9 rfl ?_
    refine S_mv rfl ?_
    refine S_bin rfl rfl rfl ?_
    refine S_nil (hK7 _ _ (V_keep [0, 1, 5, 15] (by simp only [proj, lk, reduceIte, Nat.reduceEqDiff]; rfl) ?_)); clear hK7
    refine V_condp rfl (fun c100 => ?_) (fun c100 => ?_)
    · skip
      refine V_reg T.mix (by kernel_rfl) ?_
      refine S_mv rfl ?_
      refine S_mv rfl ?_
      refine S_sl rfl rfl rfl (sliceV_strhi T.kd9 (by omega) (by omega)) ?_
      have hsz : (u.extract 0 (1048577 - (s.size : Int)).toNat).size ≤ 1048577 - s.size := by rw [ByteArray.size_extract]; omega
      refine S_as rfl ?_
      refine S_nilk [0, 1] (by simp only [proj, lk, reduceIte, Nat.reduceEqDiff]; rfl) ?_
      refine hK6 _ _ ?_; clear hK6
      refine V_sr T.mix (by kernel_rfl) (fun K8 hK8 => ?_)
      refine S_mv rfl ?_
      refine S_mv rfl ?_
      refine S_bin rfl rfl (strV_add (by omega)) ?_
      refine S_as rfl ?_
      refine S_nil (hK8 _ _ (V_keep [4] (by simp only [proj, lk, reduceIte, Nat.reduceEqDiff]; rfl) ?_)); clear hK8
      refine V_ret ?_
      refine hR _ _ (ret1 rfl rfl ?_)
      exact ⟨⟨_, rfl, by rw [ByteArray.size_append]; omega⟩, rfl⟩
    · skip
      refine V_skipk [0, 1] (by simp only [proj, lk, reduceIte, Nat.reduceEqDiff]; rfl) ?_
      refine hK6 _ _ ?_; clear hK6
      refine V_sr T.mix (by kernel_rfl) (fun K9 hK9 => ?_)
      refine S_mv rfl ?_
      refine S_mv rfl ?_
      refine S_bin rfl rfl (strV_add (by omega)) ?_
      refine S_as rfl ?_
      refine S_nil (hK9 _ _ (V_keep [4] (by simp only [proj, lk, reduceIte, Nat.reduceEqDiff]; rfl) ?_)); clear hK9
      refine V_ret ?_
      refine hR _ _ (ret1 rfl rfl ?_)
      exact ⟨⟨_, rfl, by rw [ByteArray.size_append]; omega⟩, rfl⟩
set_option maxHeartbeats 400000 in
theorem checkflat_spec (h : Heap) (a : Option Addr) (cap : Nat) (xs : List Int) (ho : IL h a cap xs) (hl : xs.length ≤ 1099511627776) :
    FC Tryz.prog 105 (#[.slice a xs.length cap] : Array Value) h fun v h' => v = .int .i64 (if flatOk xs then 0 else 6) ∧ h = h' := by
  refine FC_of [(0, .slice a xs.length cap)] Tryz.func105 rfl Tryz.ntmps105 (by simp) rfl (fun R hR => ?_)
  refine V_sr T.mix (by kernel_rfl) (fun K1 hK1 => ?_)
  refine S_as rfl ?_
  refine S_nil (hK1 _ _ (V_keep [0] (by simp only [proj, lk, reduceIte, Nat.reduceEqDiff]; rfl) ?_)); clear hK1
  refine V_sr T.mix (by kernel_rfl) (fun K2 hK2 => ?_)
  refine S_as rfl ?_
  refine S_nil (hK2 _ _ (V_keep [0, 3] (by simp only [proj, lk, reduceIte, Nat.reduceEqDiff]; rfl) ?_)); clear hK2
  refine V_sr T.mix (by kernel_rfl) (fun K3 hK3 => ?_)
  refine S_as rfl ?_
  refine S_nil (hK3 _ _ (V_keep [0, 3, 4] (by simp only [proj, lk, reduceIte, Nat.reduceEqDiff]; rfl) ?_)); clear hK3
  refine V_seq (fun K4 hK4 => ?_)
  refine V_sr T.mix (by kernel_rfl) (fun K5 hK5 => ?_)
  refine S_as rfl ?_
  refine S_nil (hK5 _ _ (V_keep [0, 3, 4, 5] (by simp only [proj, lk, reduceIte, Nat.reduceEqDiff]; rfl) ?_)); clear hK5
  refine V_block ?_
  refine V_loop (fun m l h' => ∃ (i : Nat) (sb : Bool) (la : Nat), (i ≤ xs.length) ∧ (la ≤ 12) ∧ (ckR ⟨true, 0⟩ xs = ckR ⟨sb, la⟩ (xs.drop i)) ∧ m = xs.length - i ∧ l = [(0, .slice a xs.length cap), (3, .bool (decide (sb = true))), (4, .int .i64 la), (5, .int .i64 i)] ∧ h = h') _ ⟨0, true, 0, by omega, by omega, by simp, rfl, rfl, rfl⟩ ?_
  rintro m l h' ⟨i, sb, la, hi, hla, hck, rfl, rfl, rfl⟩ K6 hK6
  refine V_seq (fun K7 hK7 => ?_)
  refine V_sr T.mix (by kernel_rfl) (fun K8 hK8 => ?_)
  refine S_mv rfl ?_
  refine S_mv rfl ?_
  refine S_lenl T.el49 rfl ?_
  refine S_bin rfl rfl rfl ?_
  refine S_nil (hK8 _ _ (V_keep [0, 3, 4, 5, 11] (by simp only [proj, lk, reduceIte, Nat.reduceEqDiff]; rfl) ?_)); clear hK8
  refine V_condp rfl (fun c41 => ?_) (fun c41 => ?_)
  · skip
    obtain ⟨ba, rfl, ha2, ha3, _⟩ := IL.get ho (by omega)
    have hdr := drop_cons xs i (by omega)
    rw [hdr, ckR] at hck
    have hem : (xs.drop (i + 1)).isEmpty = decide (xs.length ≤ i + 1) := by rw [Bool.eq_iff_iff]; simp
    generalize hx : xs.getD i 0 = x at *
    have ha4 := ha3 i (by omega)
    rw [hx] at ha4
    refine V_skipk [0, 3, 4, 5] (by simp only [proj, lk, reduceIte, Nat.reduceEqDiff]; rfl) ?_
    refine hK7 _ _ ?_; clear hK7
    refine V_seq (fun K9 hK9 => ?_)
    refine V_block ?_
    refine V_sr T.mix (by kernel_rfl) (fun K10 hK10 => ?_)
    refine S_mv rfl ?_
    refine S_mv rfl ?_
    first | refine S_ixn T.el49 rfl rfl (by omega) ?_ | refine S_ix1 T.el49 rfl rfl (by omega) (by omega) ?_ | refine S_ix T.el49 rfl rfl (by omega) (by omega) ?_
    refine S_ldK T.ag3 rfl (fun K' hK' => ?_)
    simp (disch := omega) only [ha4, oP_some, Nat.add_zero]
    refine hK' _ ?_; clear hK' K'
    refine S_as rfl ?_
    refine S_nil (hK10 _ _ (V_keep [0, 3, 4, 5, 6] (by simp only [proj, lk, reduceIte, Nat.reduceEqDiff]; rfl) ?_)); clear hK10
    refine V_seq (fun K11 hK11 => ?_)
    refine V_sr T.mix (by kernel_rfl) (fun K12 hK12 => ?_)
    refine S_mv rfl ?_
    refine S_bin rfl rfl rfl ?_
    refine S_mv rfl ?_
    refine S_dec (fun g43 => ?_) (fun g43 => ?_)
    · skip
      refine S_gt rfl ?_
      refine S_mv rfl ?_
      refine S_pt rfl rfl ?_
      refine S_nil (hK12 _ _ (V_keep [0, 4, 5, 6, 22] (by simp only [proj, lk, reduceIte, Nat.reduceEqDiff]; rfl) ?_)); clear hK12
      refine V_condp rfl (fun c43 => ?_) (fun c43 => ?_)
      · skip
        refine V_sr T.mix (by kernel_rfl) (fun K13 hK13 => ?_)
        refine S_as rfl ?_
        refine S_nil (hK13 _ _ (V_keep [0, 3, 4, 5] (by simp only [proj, lk, reduceIte, Nat.reduceEqDiff]; rfl) ?_)); clear hK13
        refine V_seq (fun K14 hK14 => ?_)
        refine V_sr T.mix (by kernel_rfl) (fun K15 hK15 => ?_)
        refine S_mv rfl ?_
        first | refine S_add rfl rfl (by omega) (by omega) ?_ | refine S_bin rfl rfl rfl ?_
        refine S_mv rfl ?_
        refine S_lenl T.el49 rfl ?_
        refine S_bin rfl rfl rfl ?_
        refine S_nil (hK15 _ _ (V_keep [0, 3, 4, 5, 27] (by simp only [proj, lk, reduceIte, Nat.reduceEqDiff]; rfl) ?_)); clear hK15
        refine V_condp rfl (fun c45 => ?_) (fun c45 => ?_)
        · skip
          refine V_sr T.mix (by kernel_rfl) (fun K16 hK16 => ?_)
          refine S_as rfl ?_
          refine S_nil (hK16 _ _ (V_keep [2] (by simp only [proj, lk, reduceIte, Nat.reduceEqDiff]; rfl) ?_)); clear hK16
          refine V_ret ?_
          refine hR _ _ (ret1 rfl rfl ?_)
          exact ⟨by congr 1; rw [flat_no (by rw [hck, ck13e g43 c43 (by rw [hem]; simp; omega)]; rfl)], rfl⟩
        · skip
          refine V_skipk [0, 3, 4, 5] (by simp only [proj, lk, reduceIte, Nat.reduceEqDiff]; rfl) ?_
          refine hK14 _ _ ?_; clear hK14
          refine V_exitk [0, 3, 4, 5] rfl (by simp only [proj, lk, reduceIte, Nat.reduceEqDiff]; rfl) ?_
          refine hK9 _ _ ?_; clear hK9
          refine V_reg T.mix (by kernel_rfl) ?_
          refine S_mv rfl ?_
          first | refine S_add rfl rfl (by omega) (by omega) ?_ | refine S_bin rfl rfl rfl ?_
          refine S_as rfl ?_
          refine S_nilk [0, 3, 4, 5] (by simp only [proj, lk, reduceIte, Nat.reduceEqDiff]; rfl) ?_
          exact hK6 _ _ ⟨_, by omega, i + 1, false, la, by omega, by omega, by rw [hck, ck13 g43 c43 (by rw [hem]; simp; omega)]; rfl, rfl, rfl, rfl⟩
      · skip
        refine V_skipk [0, 4, 5, 6] (by simp only [proj, lk, reduceIte, Nat.reduceEqDiff]; rfl) ?_
        refine hK11 _ _ ?_; clear hK11
        refine V_seq (fun K17 hK17 => ?_)
        refine V_sr T.mix (by kernel_rfl) (fun K18 hK18 => ?_)
        refine S_mv rfl ?_
        refine S_bin rfl rfl rfl ?_
        refine S_nil (hK18 _ _ (V_keep [0, 4, 5, 6, 29] (by simp only [proj, lk, reduceIte, Nat.reduceEqDiff]; rfl) ?_)); clear hK18
        refine V_condp rfl (fun c50 => ?_) (fun c50 => ?_)
        · skip
          exfalso; omega
        · skip
          refine V_skipk [0, 4, 5, 6] (by simp only [proj, lk, reduceIte, Nat.reduceEqDiff]; rfl) ?_
          refine hK17 _ _ ?_; clear hK17
          refine V_seq (fun K19 hK19 => ?_)
          refine V_sr T.mix (by kernel_rfl) (fun K20 hK20 => ?_)
          refine S_mv rfl ?_
          refine S_call T.hb100 rfl ?_
          refine FC.mono (goodlit_spec h _) ?_
          rintro v h' ⟨rfl, rfl⟩
          refine S_notb rfl ?_
          refine S_nil (hK20 _ _ (V_keep [0, 4, 5, 6, 32] (by simp only [proj, lk, reduceIte, Nat.reduceEqDiff]; rfl) ?_)); clear hK20
          refine V_condb rfl (fun c55 => ?_) (fun c55 => ?_)
          · skip
            refine V_sr T.mix (by kernel_rfl) (fun K21 hK21 => ?_)
            refine S_as rfl ?_
            refine S_nil (hK21 _ _ (V_keep [2] (by simp only [proj, lk, reduceIte, Nat.reduceEqDiff]; rfl) ?_)); clear hK21
            refine V_ret ?_
            refine hR _ _ (ret1 rfl rfl ?_)
            exact ⟨by congr 1; rw [flat_no (by rw [hck, ckB (by simp at c55; omega) c50 (fun e => c43 e.2)]; rfl)], rfl⟩
          · skip
            exfalso; simp at c55; omega
    · skip
      refine S_gf rfl ?_
      refine S_pf rfl rfl ?_
      refine S_nil (hK12 _ _ (V_keep [0, 4, 5, 6, 22] (by simp only [proj, lk, reduceIte, Nat.reduceEqDiff]; rfl) ?_)); clear hK12
      refine V_condf rfl ?_
      refine V_skipk [0, 4, 5, 6] (by simp only [proj, lk, reduceIte, Nat.reduceEqDiff]; rfl) ?_
      refine hK11 _ _ ?_; clear hK11
      refine V_seq (fun K22 hK22 => ?_)
      refine V_sr T.mix (by kernel_rfl) (fun K23 hK23 => ?_)
      refine S_mv rfl ?_
      refine S_bin rfl rfl rfl ?_
      refine S_nil (hK23 _ _ (V_keep [0, 4, 5, 6, 29] (by simp only [proj, lk, reduceIte, Nat.reduceEqDiff]; rfl) ?_)); clear hK23
      refine V_condp rfl (fun c50a => ?_) (fun c50a => ?_)
      · skip
        refine V_sr T.mix (by kernel_rfl) (fun K24 hK24 => ?_)
        refine S_as rfl ?_
        refine S_nil (hK24 _ _ (V_keep [0, 3, 5] (by simp only [proj, lk, reduceIte, Nat.reduceEqDiff]; rfl) ?_)); clear hK24
        refine V_sr T.mix (by kernel_rfl) (fun K25 hK25 => ?_)
        refine S_as rfl ?_
        refine S_nil (hK25 _ _ (V_keep [0, 3, 4, 5] (by simp only [proj, lk, reduceIte, Nat.reduceEqDiff]; rfl) ?_)); clear hK25
        refine V_exitk [0, 3, 4, 5] rfl (by simp only [proj, lk, reduceIte, Nat.reduceEqDiff]; rfl) ?_
        refine hK9 _ _ ?_; clear hK9
        refine V_reg T.mix (by kernel_rfl) ?_
        refine S_mv rfl ?_
        first | refine S_add rfl rfl (by omega) (by omega) ?_ | refine S_bin rfl rfl rfl ?_
        refine S_as rfl ?_
        refine S_nilk [0, 3, 4, 5] (by simp only [proj, lk, reduceIte, Nat.reduceEqDiff]; rfl) ?_
        exact hK6 _ _ ⟨_, by omega, i + 1, true, 0, by omega, by omega, by rw [hck, ck0 c50a]; rfl, rfl, rfl, rfl⟩
      · skip
        refine V_skipk [0, 4, 5, 6] (by simp only [proj, lk, reduceIte, Nat.reduceEqDiff]; rfl) ?_
        refine hK22 _ _ ?_; clear hK22
        refine V_seq (fun K26 hK26 => ?_)
        refine V_sr T.mix (by kernel_rfl) (fun K27 hK27 => ?_)
        refine S_mv rfl ?_
        refine S_call T.hb100 rfl ?_
        refine FC.mono (goodlit_spec h _) ?_
        rintro v h' ⟨rfl, rfl⟩
        refine S_notb rfl ?_
        refine S_nil (hK27 _ _ (V_keep [0, 4, 5, 6, 32] (by simp only [proj, lk, reduceIte, Nat.reduceEqDiff]; rfl) ?_)); clear hK27
        refine V_condb rfl (fun c55a => ?_) (fun c55a => ?_)
        · skip
          refine V_sr T.mix (by kernel_rfl) (fun K28 hK28 => ?_)
          refine S_as rfl ?_
          refine S_nil (hK28 _ _ (V_keep [2] (by simp only [proj, lk, reduceIte, Nat.reduceEqDiff]; rfl) ?_)); clear hK28
          refine V_ret ?_
          refine hR _ _ (ret1 rfl rfl ?_)
          exact ⟨by congr 1; rw [flat_no (by rw [hck, ckB (by simp at c55a; omega) c50a (fun e => g43 e.1)]; rfl)], rfl⟩
        · skip
          have hg : x ≠ 0 ∧ -12 ≤ x ∧ x ≤ 12 := by simpa using c55a
          refine V_skipk [0, 4, 5, 6] (by simp only [proj, lk, reduceIte, Nat.reduceEqDiff]; rfl) ?_
          refine hK26 _ _ ?_; clear hK26
          refine V_sr T.mix (by kernel_rfl) (fun K29 hK29 => ?_)
          refine S_mv rfl ?_
          refine S_call T.hb52 rfl ?_
          refine FC.mono (var_spec h _ (by omega) (by omega)) ?_
          rintro v h' ⟨rfl, rfl⟩
          refine S_as rfl ?_
          refine S_nil (hK29 _ _ (V_keep [0, 4, 5, 7] (by simp only [proj, lk, reduceIte, Nat.reduceEqDiff]; rfl) ?_)); clear hK29
          refine V_seq (fun K30 hK30 => ?_)
          refine V_sr T.mix (by kernel_rfl) (fun K31 hK31 => ?_)
          refine S_mv rfl ?_
          refine S_mv rfl ?_
          refine S_bin rfl rfl rfl ?_
          refine S_nil (hK31 _ _ (V_keep [0, 5, 7, 37] (by simp only [proj, lk, reduceIte, Nat.reduceEqDiff]; rfl) ?_)); clear hK31
          refine V_condp rfl (fun c59 => ?_) (fun c59 => ?_)
          · skip
            refine V_sr T.mix (by kernel_rfl) (fun K32 hK32 => ?_)
            refine S_as rfl ?_
            refine S_nil (hK32 _ _ (V_keep [2] (by simp only [proj, lk, reduceIte, Nat.reduceEqDiff]; rfl) ?_)); clear hK32
            refine V_ret ?_
            refine hR _ _ (ret1 rfl rfl ?_)
            exact ⟨by congr 1; rw [flat_no (by rw [hck, ckLe hg (by omega)]; rfl)], rfl⟩
          · skip
            refine V_skipk [0, 5, 7] (by simp only [proj, lk, reduceIte, Nat.reduceEqDiff]; rfl) ?_
            refine hK30 _ _ ?_; clear hK30
            refine V_sr T.mix (by kernel_rfl) (fun K33 hK33 => ?_)
            refine S_as rfl ?_
            refine S_nil (hK33 _ _ (V_keep [0, 3, 5, 7] (by simp only [proj, lk, reduceIte, Nat.reduceEqDiff]; rfl) ?_)); clear hK33
            refine V_reg T.mix (by kernel_rfl) ?_
            refine S_mv rfl ?_
            refine S_as rfl ?_
            refine S_nilk [0, 3, 4, 5] (by simp only [proj, lk, reduceIte, Nat.reduceEqDiff]; rfl) ?_
            refine hK9 _ _ ?_; clear hK9
            refine V_reg T.mix (by kernel_rfl) ?_
            refine S_mv rfl ?_
            first | refine S_add rfl rfl (by omega) (by omega) ?_ | refine S_bin rfl rfl rfl ?_
            refine S_as rfl ?_
            refine S_nilk [0, 3, 4, 5] (by simp only [proj, lk, reduceIte, Nat.reduceEqDiff]; rfl) ?_
            exact hK6 _ _ ⟨_, by omega, i + 1, false, x.natAbs, by omega, by omega, by rw [hck, ckL hg (by omega)]; rfl, rfl, rfl, rfl⟩
  · skip
    refine V_exitk [0] rfl (by simp only [proj, lk, reduceIte, Nat.reduceEqDiff]; rfl) ?_
    refine hK4 _ _ ?_; clear hK4
    refine V_seq (fun K34 hK34 => ?_)
    refine V_sr T.mix (by kernel_rfl) (fun K35 hK35 => ?_)
    refine S_mv rfl ?_
    refine S_lenl T.el49 rfl ?_
    refine S_bin rfl rfl rfl ?_
    refine S_mv rfl ?_
    refine S_dec (fun g65 => ?_) (fun g65 => ?_)
    · skip
      obtain ⟨ba, rfl, ha2, ha3, _⟩ := IL.get ho (by omega)
      refine S_gt rfl ?_
      refine S_mv rfl ?_
      refine S_gt rfl ?_
      refine S_mv rfl ?_
      refine S_gt rfl ?_
      refine S_lenl T.el49 rfl ?_
      refine S_gt rfl ?_
      first | refine S_sub rfl rfl (by omega) (by omega) ?_ | refine S_bin rfl rfl rfl ?_
      refine S_gt rfl ?_
      first | refine S_ixn T.el49 rfl rfl (by omega) ?_ | refine S_ix1 T.el49 rfl rfl (by omega) (by omega) ?_ | refine S_ix T.el49 rfl rfl (by omega) (by omega) ?_
      refine S_gt rfl ?_
      refine S_ldK T.ag3 rfl (fun K' hK' => ?_)
      simp (disch := omega) only [ha3, oP_some, Nat.add_zero]
      refine hK' _ ?_; clear hK' K'
      refine S_gt rfl ?_
      refine S_bin rfl rfl rfl ?_
      refine S_pt rfl rfl ?_
      refine S_nil (hK35 _ _ (V_keep [50] (by simp only [proj, lk, reduceIte, Nat.reduceEqDiff]; rfl) ?_)); clear hK35
      refine V_condp rfl (fun c65 => ?_) (fun c65 => ?_)
      · skip
        refine V_sr T.mix (by kernel_rfl) (fun K36 hK36 => ?_)
        refine S_as rfl ?_
        refine S_nil (hK36 _ _ (V_keep [2] (by simp only [proj, lk, reduceIte, Nat.reduceEqDiff]; rfl) ?_)); clear hK36
        refine V_ret ?_
        refine hR _ _ (ret1 rfl rfl ?_)
        have hx : i = xs.length := by omega
        subst hx
        rw [List.drop_length] at hck
        refine ⟨?_, rfl⟩
        rw [if_neg (fun hf => ?_)]
        simp only [flatOk, Bool.and_eq_true, Bool.or_eq_true, decide_eq_true_eq] at hf
        rcases hf.2 with hf | hf
        · simp at hf; subst hf; simp at g65
        · exact c65 ((last0 (by omega)).1 hf)
      · skip
        refine V_skipk [] (by simp only [proj, lk, reduceIte, Nat.reduceEqDiff]; rfl) ?_
        refine hK34 _ _ ?_; clear hK34
        refine V_sr T.mix (by kernel_rfl) (fun K37 hK37 => ?_)
        refine S_as rfl ?_
        refine S_nil (hK37 _ _ (V_keep [2] (by simp only [proj, lk, reduceIte, Nat.reduceEqDiff]; rfl) ?_)); clear hK37
        refine V_ret ?_
        refine hR _ _ (ret1 rfl rfl ?_)
        have hx : i = xs.length := by omega
        subst hx
        rw [List.drop_length] at hck
        refine ⟨?_, rfl⟩
        rw [if_pos]
        simp only [flatOk, hck, Bool.and_eq_true, Bool.or_eq_true, decide_eq_true_eq]
        refine ⟨rfl, ?_⟩
        first | exact .inr ((last0 (by omega)).2 (by omega)) | exact .inl (by rw [List.isEmpty_iff_length_eq_zero]; omega)
    · skip
      refine S_gf rfl ?_
      refine S_gf rfl ?_
      refine S_gf rfl ?_
      refine S_gf rfl ?_
      refine S_gf rfl ?_
      refine S_gf rfl ?_
      refine S_gf rfl ?_
      refine S_pf rfl rfl ?_
      refine S_nil (hK35 _ _ (V_keep [50] (by simp only [proj, lk, reduceIte, Nat.reduceEqDiff]; rfl) ?_)); clear hK35
      refine V_condf rfl ?_
      refine V_skipk [] (by simp only [proj, lk, reduceIte, Nat.reduceEqDiff]; rfl) ?_
      refine hK34 _ _ ?_; clear hK34
      refine V_sr T.mix (by kernel_rfl) (fun K38 hK38 => ?_)
      refine S_as rfl ?_
      refine S_nil (hK38 _ _ (V_keep [2] (by simp only [proj, lk, reduceIte, Nat.reduceEqDiff]; rfl) ?_)); clear hK38
      refine V_ret ?_
      refine hR _ _ (ret1 rfl rfl ?_)
      have hx : i = xs.length := by omega
      subst hx
      rw [List.drop_length] at hck
      refine ⟨?_, rfl⟩
      rw [if_pos]
      simp only [flatOk, hck, Bool.and_eq_true, Bool.or_eq_true, decide_eq_true_eq]
      refine ⟨rfl, ?_⟩
      first | exact .inr ((last0 (by omega)).2 (by omega)) | exact .inl (by rw [List.isEmpty_iff_length_eq_zero]; omega)
end Go.Proofs.Qxb6500401aGreat.ChkW
