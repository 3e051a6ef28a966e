import Derived.Test.Qxb6500401aGreatXa
import Derived.Test.Qxb6500401aGreatLw
set_option linter.unusedVariables false
set_option linter.unusedSimpArgs false
namespace Go.Proofs.Qxb6500401aGreat
open Go.Eng Go.Trl Go.Chk Go.Wat

/-- the check of a clause -/
def ccG (la : Nat) : List Int → Nat
  | [] => 0
  | x :: r => if x ≠ 0 ∧ -12 ≤ x ∧ x ≤ 12 then (if x.natAbs ≤ la then 8 else ccG x.natAbs r) else 7
def ccE (c : List Int) : Nat := if 12 < c.length then 1 else ccG 0 c
def laI (c : List Int) (i : Nat) : Nat := if i = 0 then 0 else (c.getD (i - 1) 0).natAbs
theorem drop_cons (l : List Int) (i : Nat) (h : i < l.length) : l.drop i = l.getD i 0 :: l.drop (i + 1) := by
  rw [List.drop_eq_getElem_cons h]; simp [h]
theorem laI_succ (c : List Int) (i : Nat) : laI c (i + 1) = (c.getD i 0).natAbs := by simp [laI]
theorem ccG_step {c : List Int} {i : Nat} (hi : i < c.length) (hq : ccG 0 c = ccG (laI c i) (c.drop i)) (hg : gd (c.getD i 0)) (hl : ¬ (c.getD i 0).natAbs ≤ laI c i) : ccG 0 c = ccG (laI c (i + 1)) (c.drop (i + 1)) := by
  unfold gd at hg; rw [hq, drop_cons c i hi, ccG, if_pos hg, if_neg hl, laI_succ]
theorem ccG_bad {c : List Int} {i : Nat} (hi : i < c.length) (hq : ccG 0 c = ccG (laI c i) (c.drop i)) (hg : ¬ gd (c.getD i 0)) : ccG 0 c = 7 := by
  unfold gd at hg; rw [hq, drop_cons c i hi, ccG, if_neg hg]
theorem ccG_ord {c : List Int} {i : Nat} (hi : i < c.length) (hq : ccG 0 c = ccG (laI c i) (c.drop i)) (hg : gd (c.getD i 0)) (hl : (c.getD i 0).natAbs ≤ laI c i) : ccG 0 c = 8 := by
  unfold gd at hg; rw [hq, drop_cons c i hi, ccG, if_pos hg, if_pos hl]
theorem ccG_nrm : ∀ (c : List Int) (la : Nat), ccG la c = 0 → Nrm c ∧ ∀ x ∈ c, la < x.natAbs
  | [], la, _ => ⟨Nrm.nil, by simp⟩
  | x :: r, la, h => by
    rw [ccG] at h
    split at h
    · rename_i g
      split at h
      · cases h
      · rename_i e
        obtain ⟨h1, h2⟩ := ccG_nrm r _ h
        refine ⟨⟨fun y hy => ?_, List.pairwise_cons.2 ⟨h2, h1.2⟩⟩, fun y hy => ?_⟩
        · rcases List.mem_cons.1 hy with q | q
          · rw [q]; exact g
          · exact h1.1 y q
        · rcases List.mem_cons.1 hy with q | q
          · rw [q]; omega
          · have := h2 y q; omega
    · cases h
theorem ccE_nrm {c : List Int} (h : ccE c = 0) : Nrm c := by
  unfold ccE at h; split at h
  · cases h
  · exact (ccG_nrm c 0 h).1
theorem ccE_lt (c : List Int) : ccE c ≤ 8 := by
  have : ∀ (c : List Int) (la : Nat), ccG la c ≤ 8 := by
    intro c; induction c with
    | nil => intro la; simp [ccG]
    | cons x r ih => intro la; rw [ccG]; repeat' split
                     all_goals first | omega | exact ih _
  unfold ccE; split
  · omega
  · exact this _ _
/-- the lowest free id -/
def frI (cl : Nat → Option (List Int)) (lo : Nat) : Nat → Option Nat
  | 0 => none
  | n + 1 => if (cl lo).isSome then frI cl (lo + 1) n else some lo
theorem frI_hit {cl : Nat → Option (List Int)} {k : Nat} : ∀ (n lo : Nat), lo ≤ k → k < lo + n → (cl k).isSome = false → (∀ j, lo ≤ j → j < k → (cl j).isSome = true) → frI cl lo n = some k
  | 0, lo, h1, h2, _, _ => by omega
  | n + 1, lo, h1, h2, h3, h4 => by
    rw [frI]
    by_cases e : lo = k
    · subst e; rw [h3]; simp
    · rw [h4 lo (by omega) (by omega)]; simp only [if_true]; exact frI_hit n (lo + 1) (by omega) (by omega) h3 (fun j q1 q2 => h4 j (by omega) q2)
theorem frI_no {cl : Nat → Option (List Int)} : ∀ (n lo : Nat), (∀ j, lo ≤ j → j < lo + n → (cl j).isSome = true) → frI cl lo n = none
  | 0, lo, _ => rfl
  | n + 1, lo, h => by rw [frI, h lo (by omega) (by omega)]; simp only [if_true]; exact frI_no n (lo + 1) (fun j q1 q2 => h j (by omega) (by omega))
theorem frI_some {cl : Nat → Option (List Int)} {k : Nat} : ∀ (n lo : Nat), frI cl lo n = some k → lo ≤ k ∧ k < lo + n ∧ cl k = none ∧ ∀ j, lo ≤ j → j < k → (cl j).isSome = true
  | 0, lo, h => by cases h
  | n + 1, lo, h => by
    rw [frI] at h
    split at h
    · rename_i e
      obtain ⟨h1, h2, h3, h4⟩ := frI_some n (lo + 1) h
      exact ⟨by omega, by omega, h3, fun j q1 q2 => by by_cases z : j = lo; (rw [z]; exact e); (exact h4 j (by omega) q2)⟩
    · rename_i e
      cases h
      exact ⟨by omega, by omega, by simpa using e, fun j q1 q2 => by omega⟩
theorem frI_none {cl : Nat → Option (List Int)} : ∀ (n lo : Nat), frI cl lo n = none → ∀ j, lo ≤ j → j < lo + n → (cl j).isSome = true
  | 0, lo, _, j, h1, h2 => by omega
  | n + 1, lo, h, j, h1, h2 => by
    rw [frI] at h
    split at h
    · rename_i e
      by_cases z : j = lo
      · rw [z]; exact e
      · exact frI_none n (lo + 1) h j (by omega) (by omega)
    · cases h
abbrev loI (le : Bool) : Nat := if le then 40 else 0
abbrev nI (le : Bool) : Nat := if le then 12 else 40
def addV (cl : Nat → Option (List Int)) (c : List Int) (le : Bool) : Nat × Nat := if ccE c = 0 then (match frI cl (loI le) (nI le) with | some k => (k, 0) | none => (0, 12)) else (0, ccE c)
def addS (cl : Nat → Option (List Int)) (c : List Int) (le : Bool) : Nat → Option (List Int) := if ccE c = 0 then (match frI cl (loI le) (nI le) with | some k => upO cl k (some c) | none => cl) else cl
theorem loI_n (le : Bool) : loI le + nI le = if le then 52 else 40 := by cases le <;> rfl
/-- the real side -/
structure WX (h : Heap) (C X : Nat) (W : WC) (cl : Nat → Option (List Int)) (s : TS) (p : Nat) : Prop where
  b : WB h C X W
  i : WI W cl (lits s.L) s.c
  t : RS h X s p
  ne : C ≠ X
theorem WX.ext {h h' : Heap} {C X : Nat} {W : WC} {cl : Nat → Option (List Int)} {s : TS} {p : Nat} {S : Nat → Prop} (w : WX h C X W cl s p) (he : Ext S h h') (h1 : ¬ S C) (h2 : ¬ S X) : WX h' C X W cl s p := ⟨w.b.ext he h1, w.i, w.t.ext he h2, w.ne⟩
theorem WX.lt {h : Heap} {C X : Nat} {W : WC} {cl : Nat → Option (List Int)} {s : TS} {p : Nat} (w : WX h C X W cl s p) : C < h.size ∧ X < h.size := ⟨w.b.lt, w.t.lt⟩
def dueW (W : WC) (i : Nat) : Bool := W.fresh.testBit i || W.weak.testBit i
theorem loc_sdn {v : Vw} {o : Option (List Int)} {ls : List Int} {c : Nat} (h : Go.Wat.Loc v o ls c) (hu : v.u = false) : v.f = false ∧ v.k = false ∧ v.sd = false ∧ ∀ q, q < 26 → v.l q = false := by
  have hs : v.sd = false := by simp [Vw.sd, hu]
  refine ⟨?_, ?_, hs, fun q hq => by rw [h.l q hq, hs]; rfl⟩
  · cases e : v.f with | false => rfl | true => rw [h.f e] at hu; cases hu
  · cases e : v.k with | false => rfl | true => rw [h.k e] at hu; cases hu
set_option maxHeartbeats 400000 in
theorem sameints_spec (h : Heap) (a b : Option Addr) (ca cb : Nat) (xs ys : List Int) (ho : IL h a ca xs) (hp : IL h b cb ys) (hl : xs.length ≤ 1099511627776) (hm : ys.length ≤ 1099511627776) :
    FC Tryz.prog 36 (#[.slice a xs.length ca, .slice b ys.length cb] : Array Value) h fun v h' => v = .bool (decide (xs = ys)) ∧ h = h' := by
  refine FC_of [(0, .slice a xs.length ca), (1, .slice b ys.length cb)] Tryz.func36 rfl Tryz.ntmps36 (by simp) rfl (fun R hR => ?_)
  refine V_sr T.mix (by kernel_rfl) (fun K1 hK1 => ?_)
  refine S_as rfl ?_
  refine S_nil (hK1 _ _ (V_keep [0, 1] (by simp only [proj, lk, reduceIte, Nat.reduceEqDiff]; rfl) ?_)); clear hK1
  refine V_seq (fun K2 hK2 => ?_)
  refine V_sr T.mix (by kernel_rfl) (fun K3 hK3 => ?_)
  refine S_mv rfl ?_
  refine S_lenl T.el49 rfl ?_
  refine S_mv rfl ?_
  refine S_lenl T.el49 rfl ?_
  refine S_bin rfl rfl rfl ?_
  refine S_nil (hK3 _ _ (V_keep [0, 1, 10] (by simp only [proj, lk, reduceIte, Nat.reduceEqDiff]; rfl) ?_)); clear hK3
  refine V_condp rfl (fun c83 => ?_) (fun c83 => ?_)
  · skip
    refine V_sr T.mix (by kernel_rfl) (fun K4 hK4 => ?_)
    refine S_as rfl ?_
    refine S_nil (hK4 _ _ (V_keep [4] (by simp only [proj, lk, reduceIte, Nat.reduceEqDiff]; rfl) ?_)); clear hK4
    refine V_ret ?_
    refine hR _ _ (ret1 rfl rfl ?_)
    have hne : ¬ xs = ys := fun e => by subst e; exact c83 rfl
    exact ⟨by rw [decide_eq_false hne], rfl⟩
  · skip
    refine V_skipk [0, 1] (by simp only [proj, lk, reduceIte, Nat.reduceEqDiff]; rfl) ?_
    refine hK2 _ _ ?_; clear hK2
    refine V_seq (fun K5 hK5 => ?_)
    refine V_sr T.mix (by kernel_rfl) (fun K6 hK6 => ?_)
    refine S_as rfl ?_
    refine S_nil (hK6 _ _ (V_keep [0, 1, 5] (by simp only [proj, lk, reduceIte, Nat.reduceEqDiff]; rfl) ?_)); clear hK6
    refine V_block ?_
    refine V_loop (fun m l h' => ∃ (i : Nat), (i ≤ xs.length) ∧ (xs.take i = ys.take i) ∧ m = xs.length - i ∧ l = [(0, .slice a xs.length ca), (1, .slice b ys.length cb), (5, .int .i64 i)] ∧ h = h') _ ⟨0, by omega, by simp, rfl, rfl, rfl⟩ ?_
    rintro m l h' ⟨i, hi, hq, rfl, rfl, rfl⟩ K7 hK7
    refine V_seq (fun K8 hK8 => ?_)
    refine V_sr T.mix (by kernel_rfl) (fun K9 hK9 => ?_)
    refine S_mv rfl ?_
    refine S_mv rfl ?_
    refine S_lenl T.el49 rfl ?_
    refine S_bin rfl rfl rfl ?_
    refine S_nil (hK9 _ _ (V_keep [0, 1, 5, 14] (by simp only [proj, lk, reduceIte, Nat.reduceEqDiff]; rfl) ?_)); clear hK9
    refine V_condp rfl (fun c86 => ?_) (fun c86 => ?_)
    · skip
      obtain ⟨ba, rfl, ha2, ha3, _⟩ := IL.get ho (by omega)
      obtain ⟨bb, rfl, hb2, hb3, _⟩ := IL.get hp (by omega)
      refine V_skipk [0, 1, 5] (by simp only [proj, lk, reduceIte, Nat.reduceEqDiff]; rfl) ?_
      refine hK8 _ _ ?_; clear hK8
      refine V_seq (fun K10 hK10 => ?_)
      refine V_block ?_
      refine V_sr T.mix (by kernel_rfl) (fun K11 hK11 => ?_)
      refine S_mv rfl ?_
      refine S_mv rfl ?_
      first | refine S_ixn T.el49 rfl rfl (by omega) ?_ | refine S_ix1 T.el49 rfl rfl (by omega) (by omega) ?_ | refine S_ix T.el49 rfl rfl (by omega) (by omega) ?_
      refine S_ldK T.ag3 rfl (fun K' hK' => ?_)
      simp (disch := omega) only [ha3, hb3, oP_some, Nat.add_zero]
      refine hK' _ ?_; clear hK' K'
      refine S_mv rfl ?_
      refine S_mv rfl ?_
      first | refine S_ixn T.el49 rfl rfl (by omega) ?_ | refine S_ix1 T.el49 rfl rfl (by omega) (by omega) ?_ | refine S_ix T.el49 rfl rfl (by omega) (by omega) ?_
      refine S_ldK T.ag3 rfl (fun K' hK' => ?_)
      simp (disch := omega) only [ha3, hb3, oP_some, Nat.add_zero]
      refine hK' _ ?_; clear hK' K'
      refine S_bin rfl rfl rfl ?_
      refine S_nil (hK11 _ _ (V_keep [0, 1, 5, 25] (by simp only [proj, lk, reduceIte, Nat.reduceEqDiff]; rfl) ?_)); clear hK11
      refine V_condp rfl (fun c87 => ?_) (fun c87 => ?_)
      · skip
        refine V_sr T.mix (by kernel_rfl) (fun K12 hK12 => ?_)
        refine S_as rfl ?_
        refine S_nil (hK12 _ _ (V_keep [4] (by simp only [proj, lk, reduceIte, Nat.reduceEqDiff]; rfl) ?_)); clear hK12
        refine V_ret ?_
        refine hR _ _ (ret1 rfl rfl ?_)
        have hne : ¬ xs = ys := fun e => c87 (by rw [e])
        exact ⟨by rw [decide_eq_false hne], rfl⟩
      · skip
        refine V_skipk [0, 1, 5] (by simp only [proj, lk, reduceIte, Nat.reduceEqDiff]; rfl) ?_
        refine hK10 _ _ ?_; clear hK10
        refine V_reg T.mix (by kernel_rfl) ?_
        refine S_mv rfl ?_
        first | refine S_add rfl rfl (by omega) (by omega) ?_ | refine S_bin rfl rfl rfl ?_
        refine S_as rfl ?_
        refine S_nilk [0, 1, 5] (by simp only [proj, lk, reduceIte, Nat.reduceEqDiff]; rfl) ?_
        exact hK7 _ _ ⟨_, by omega, i + 1, by omega, by rw [getD_snoc xs i (by omega), getD_snoc ys i (by omega), hq]; congr 2; omega, rfl, rfl, rfl⟩
    · skip
      refine V_exitk [] rfl (by simp only [proj, lk, reduceIte, Nat.reduceEqDiff]; rfl) ?_
      refine hK5 _ _ ?_; clear hK5
      refine V_sr T.mix (by kernel_rfl) (fun K13 hK13 => ?_)
      refine S_as rfl ?_
      refine S_nil (hK13 _ _ (V_keep [4] (by simp only [proj, lk, reduceIte, Nat.reduceEqDiff]; rfl) ?_)); clear hK13
      refine V_ret ?_
      refine hR _ _ (ret1 rfl rfl ?_)
      have hlm : xs = ys := by rw [List.take_of_length_le (by omega), List.take_of_length_le (by omega)] at hq; exact hq
      exact ⟨by rw [decide_eq_true hlm], rfl⟩
set_option maxHeartbeats 400000 in
theorem copyints_spec (h : Heap) (a : Option Addr) (cap : Nat) (xs : List Int) (ho : IL h a cap xs) (hl : xs.length ≤ 1099511627776) :
    FC Tryz.prog 87 (#[.slice a xs.length cap] : Array Value) h fun v h' => ∃ a', v = .slice a' xs.length xs.length ∧ IL h' a' xs.length xs ∧ Ext (fun _ => False) h h' ∧ (xs.length = 0 → a' = none) ∧ (∀ b, blkA a' = some b → h.size ≤ b) := by
  refine FC_of [(0, .slice a xs.length cap)] Tryz.func87 rfl Tryz.ntmps87 (by simp) rfl (fun R hR => ?_)
  refine V_sr T.mix (by kernel_rfl) (fun K1 hK1 => ?_)
  refine S_as rfl ?_
  refine S_nil (hK1 _ _ (V_keep [0] (by simp only [proj, lk, reduceIte, Nat.reduceEqDiff]; rfl) ?_)); clear hK1
  refine V_seq (fun K2 hK2 => ?_)
  refine V_sr T.mix (by kernel_rfl) (fun K3 hK3 => ?_)
  refine S_mv rfl ?_
  refine S_lenl T.el49 rfl ?_
  refine S_bin rfl rfl rfl ?_
  refine S_nil (hK3 _ _ (V_keep [0, 6] (by simp only [proj, lk, reduceIte, Nat.reduceEqDiff]; rfl) ?_)); clear hK3
  refine V_condp rfl (fun c73 => ?_) (fun c73 => ?_)
  · skip
    refine V_sr T.mix (by kernel_rfl) (fun K4 hK4 => ?_)
    refine S_as rfl ?_
    refine S_nil (hK4 _ _ (V_keep [2] (by simp only [proj, lk, reduceIte, Nat.reduceEqDiff]; rfl) ?_)); clear hK4
    refine V_ret ?_
    refine hR _ _ (ret1 rfl rfl ?_)
    have hx : xs = [] := List.eq_nil_of_length_eq_zero (by omega)
    subst hx
    exact ⟨none, rfl, IL.nil _, Ext.refl _ _, fun _ => rfl, fun b hb => by simp [blkA] at hb⟩
  · skip
    refine V_skipk [0] (by simp only [proj, lk, reduceIte, Nat.reduceEqDiff]; rfl) ?_
    refine hK2 _ _ ?_; clear hK2
    refine V_sr T.mix (by kernel_rfl) (fun K5 hK5 => ?_)
    refine S_mv rfl ?_
    refine S_lenl T.el49 rfl ?_
    refine S_mk T.ei49 rfl rfl (by omega) (by omega) (by omega) (by omega) ?_
    simp only [Int.toNat_natCast, Nat.mul_one, mkZ_one]
    generalize hh : Array.push h _ = h1
    have hB1 : B h1 h.size (arr xs.length fun _ => .int .i64 0) 3 := by rw [← hh]; exact B.new _ _ _
    have hE1 : Ext (fun _ => False) h h1 := by rw [← hh]; exact Ext.push _ _ _
    have ho1 := ho.ext hE1 (fun _ _ f => f)
    clear hh
    refine S_as rfl ?_
    refine S_nil (hK5 _ _ (V_keep [0, 3] (by simp only [proj, lk, reduceIte, Nat.reduceEqDiff]; rfl) ?_)); clear hK5
    refine V_sr T.mix (by kernel_rfl) (fun K6 hK6 => ?_)
    refine S_mv rfl ?_
    refine S_mv rfl ?_
    refine S_copyx T.el49 rfl (k := xs.length) (by simp) (OwnR.cells ho1) hB1 (by rw [ints_len]; omega) (ints_one _) (fun h2 hB2 hE2 hz2 => ?_)
    refine S_nil (hK6 _ _ (V_keep [3] (by simp only [proj, lk, reduceIte, Nat.reduceEqDiff]; rfl) ?_)); clear hK6
    refine V_sr T.mix (by kernel_rfl) (fun K7 hK7 => ?_)
    refine S_mv rfl ?_
    refine S_as rfl ?_
    refine S_nil (hK7 _ _ (V_keep [2] (by simp only [proj, lk, reduceIte, Nat.reduceEqDiff]; rfl) ?_)); clear hK7
    refine V_ret ?_
    refine hR _ _ (ret1 rfl rfl ?_)
    refine ⟨some ⟨h.size, 0, none⟩, rfl, IL.new ?_, hE1.step hE2 (fun b hb e => by omega), fun e => by omega, fun b hb => by simp [blkA] at hb; omega⟩
    exact hB2.cong (arr_ext fun j hj => by rw [if_pos (by rw [ints_len]; exact hj)]; simp [ints, hj])
set_option maxHeartbeats 400000 in
theorem checkclause_spec (h : Heap) (a : Option Addr) (cap : Nat) (xs : List Int) (ho : IL h a cap xs) (hl : xs.length ≤ 1099511627776) :
    FC Tryz.prog 116 (#[.slice a xs.length cap] : Array Value) h fun rv h' => rv = .int .i64 ((ccE xs : Nat) : Int) ∧ h = h' := by
  refine FC_of [(0, .slice a xs.length cap)] Tryz.func116 rfl Tryz.ntmps116 (by simp) rfl (fun R hR => ?_)
  refine V_sr T.mix (by kernel_rfl) (fun K1 hK1 => ?_)
  refine S_as rfl ?_
  refine S_nil (hK1 _ _ (V_keep [0] (by simp only [proj, lk, reduceIte, Nat.reduceEqDiff]; rfl) ?_)); clear hK1
  refine V_seq (fun K2 hK2 => ?_)
  refine V_sr T.mix (by kernel_rfl) (fun K3 hK3 => ?_)
  refine S_mv rfl ?_
  refine S_lenl T.el49 rfl ?_
  refine S_bin rfl rfl rfl ?_
  refine S_nil (hK3 _ _ (V_keep [0, 7] (by simp only [proj, lk, reduceIte, Nat.reduceEqDiff]; rfl) ?_)); clear hK3
  refine V_condp rfl (fun c20 => ?_) (fun c20 => ?_)
  · skip
    refine V_sr T.mix (by kernel_rfl) (fun K4 hK4 => ?_)
    refine S_as rfl ?_
    refine S_nil (hK4 _ _ (V_keep [2] (by simp only [proj, lk, reduceIte, Nat.reduceEqDiff]; rfl) ?_)); clear hK4
    refine V_ret ?_
    refine hR _ _ (ret1 rfl rfl ?_)
    exact ⟨by unfold ccE; rw [if_pos (by omega)]; rfl, rfl⟩
  · skip
    refine V_skipk [0] (by simp only [proj, lk, reduceIte, Nat.reduceEqDiff]; rfl) ?_
    refine hK2 _ _ ?_; clear hK2
    refine V_seq (fun K5 hK5 => ?_)
    refine V_sr T.mix (by kernel_rfl) (fun K6 hK6 => ?_)
    refine S_as rfl ?_
    refine S_nil (hK6 _ _ (V_keep [0, 3] (by simp only [proj, lk, reduceIte, Nat.reduceEqDiff]; rfl) ?_)); clear hK6
    refine V_block ?_
    refine V_loop (fun m l h' => ∃ (i : Nat), (i ≤ xs.length) ∧ (ccG 0 xs = ccG (laI xs i) (xs.drop i)) ∧ (0 < i → -12 ≤ xs.getD (i - 1) 0 ∧ xs.getD (i - 1) 0 ≤ 12) ∧ m = xs.length - i ∧ l = [(0, .slice a xs.length cap), (3, .int .i64 (i : Int))] ∧ h = h') _ ⟨0, by omega, rfl, fun e => by omega, rfl, rfl, rfl⟩ ?_
    rintro m l h' ⟨i, hi, hq, hprev, rfl, rfl, rfl⟩ K7 hK7
    refine V_seq (fun K8 hK8 => ?_)
    refine V_sr T.mix (by kernel_rfl) (fun K9 hK9 => ?_)
    refine S_mv rfl ?_
    refine S_mv rfl ?_
    refine S_lenl T.el49 rfl ?_
    refine S_bin rfl rfl rfl ?_
    refine S_nil (hK9 _ _ (V_keep [0, 3, 11] (by simp only [proj, lk, reduceIte, Nat.reduceEqDiff]; rfl) ?_)); clear hK9
    refine V_condp rfl (fun c23 => ?_) (fun c23 => ?_)
    · skip
      obtain ⟨bb, rfl, _, _, _⟩ := ho.get (by omega)
      refine V_skipk [0, 3] (by simp only [proj, lk, reduceIte, Nat.reduceEqDiff]; rfl) ?_
      refine hK8 _ _ ?_; clear hK8
      refine V_seq (fun K10 hK10 => ?_)
      refine V_block ?_
      refine V_seq (fun K11 hK11 => ?_)
      refine V_sr T.mix (by kernel_rfl) (fun K12 hK12 => ?_)
      refine S_mv rfl ?_
      refine S_mv rfl ?_
      first | refine S_ixn T.el49 rfl rfl (by omega) ?_ | refine S_ix1 T.el49 rfl rfl (by omega) (by omega) ?_ | refine S_ix T.el49 rfl rfl (by omega) (by omega) ?_
      refine S_ldK T.ag3 rfl (fun K' hK' => ?_)
      simp (disch := omega) only [ho.at, oP_some, Nat.add_zero]
      refine hK' _ ?_; clear hK' K'
      refine S_call T.hb100 rfl ?_
      refine FC.mono (goodlit_spec _ ((xs.getD i 0))) ?_
      rintro v' h' ⟨g, rfl, hg, rfl⟩
      refine S_notb rfl ?_
      refine S_nil (hK12 _ _ (V_keep [0, 3, 19] (by simp only [proj, lk, reduceIte, Nat.reduceEqDiff]; rfl) ?_)); clear hK12
      refine V_condb rfl (fun c24 => ?_) (fun c24 => ?_)
      · skip
        simp only [Bool.not_eq_true'] at c24
        have hng : ¬ gd (xs.getD i 0) := fun e => by rw [hg.2 e] at c24; cases c24
        refine V_sr T.mix (by kernel_rfl) (fun K13 hK13 => ?_)
        refine S_as rfl ?_
        refine S_nil (hK13 _ _ (V_keep [2] (by simp only [proj, lk, reduceIte, Nat.reduceEqDiff]; rfl) ?_)); clear hK13
        refine V_ret ?_
        refine hR _ _ (ret1 rfl rfl ?_)
        exact ⟨by unfold ccE; rw [if_neg (by omega), ccG_bad (by omega) hq hng]; rfl, rfl⟩
      · skip
        simp only [Bool.not_eq_false'] at c24
        have hgx : gd (xs.getD i 0) := hg.1 c24
        have hgx2 := hgx
        unfold gd at hgx2
        refine V_skipk [0, 3] (by simp only [proj, lk, reduceIte, Nat.reduceEqDiff]; rfl) ?_
        refine hK11 _ _ ?_; clear hK11
        refine V_sr T.mix (by kernel_rfl) (fun K14 hK14 => ?_)
        refine S_mv rfl ?_
        refine S_bin rfl rfl rfl ?_
        refine S_nil (hK14 _ _ (V_keep [0, 3, 21] (by simp only [proj, lk, reduceIte, Nat.reduceEqDiff]; rfl) ?_)); clear hK14
        refine V_condp rfl (fun c27 => ?_) (fun c27 => ?_)
        · skip
          have hgp : -12 ≤ xs.getD (i - 1) 0 ∧ xs.getD (i - 1) 0 ≤ 12 := hprev (by omega)
          refine V_sr T.mix (by kernel_rfl) (fun K15 hK15 => ?_)
          refine S_mv rfl ?_
          refine S_mv rfl ?_
          first | refine S_ixn T.el49 rfl rfl (by omega) ?_ | refine S_ix1 T.el49 rfl rfl (by omega) (by omega) ?_ | refine S_ix T.el49 rfl rfl (by omega) (by omega) ?_
          refine S_ldK T.ag3 rfl (fun K' hK' => ?_)
          simp (disch := omega) only [ho.at, oP_some, Nat.add_zero]
          refine hK' _ ?_; clear hK' K'
          refine S_call T.hb52 rfl ?_
          refine FC.mono (var_spec _ ((xs.getD i 0)) (by omega) (by omega)) ?_
          rintro v' h' ⟨rfl, rfl⟩
          refine S_as rfl ?_
          refine S_nil (hK15 _ _ (V_keep [0, 3, 4] (by simp only [proj, lk, reduceIte, Nat.reduceEqDiff]; rfl) ?_)); clear hK15
          refine V_sr T.mix (by kernel_rfl) (fun K16 hK16 => ?_)
          refine S_mv rfl ?_
          refine S_mv rfl ?_
          refine S_mv rfl ?_
          refine S_subN (i - 1) rfl rfl (by omega) (by omega) ?_
          first | refine S_ixn T.el49 rfl rfl (by omega) ?_ | refine S_ix1 T.el49 rfl rfl (by omega) (by omega) ?_ | refine S_ix T.el49 rfl rfl (by omega) (by omega) ?_
          refine S_ldK T.ag3 rfl (fun K' hK' => ?_)
          simp (disch := omega) only [ho.at, oP_some, Nat.add_zero]
          refine hK' _ ?_; clear hK' K'
          refine S_call T.hb52 rfl ?_
          refine FC.mono (var_spec _ ((xs.getD (i - 1) 0)) (by omega) (by omega)) ?_
          rintro v' h' ⟨rfl, rfl⟩
          refine S_bin rfl rfl rfl ?_
          refine S_nil (hK16 _ _ (V_keep [0, 3, 34] (by simp only [proj, lk, reduceIte, Nat.reduceEqDiff]; rfl) ?_)); clear hK16
          refine V_condp rfl (fun c29 => ?_) (fun c29 => ?_)
          · skip
            refine V_sr T.mix (by kernel_rfl) (fun K17 hK17 => ?_)
            refine S_as rfl ?_
            refine S_nil (hK17 _ _ (V_keep [2] (by simp only [proj, lk, reduceIte, Nat.reduceEqDiff]; rfl) ?_)); clear hK17
            refine V_ret ?_
            refine hR _ _ (ret1 rfl rfl ?_)
            exact ⟨by unfold ccE; rw [if_neg (by omega), ccG_ord (by omega) hq hgx (by rw [laI, if_neg (by omega)]; omega)]; rfl, rfl⟩
          · skip
            refine V_skipk [0, 3] (by simp only [proj, lk, reduceIte, Nat.reduceEqDiff]; rfl) ?_
            refine hK10 _ _ ?_; clear hK10
            refine V_reg T.mix (by kernel_rfl) ?_
            refine S_mv rfl ?_
            first | refine S_add rfl rfl (by omega) (by omega) ?_ | refine S_bin rfl rfl rfl ?_
            refine S_as rfl ?_
            refine S_nilk [0, 3] (by simp only [proj, lk, reduceIte, Nat.reduceEqDiff]; rfl) ?_
            exact hK7 _ _ ⟨_, by omega, i + 1, by omega, ccG_step (by omega) hq hgx (by rw [laI, if_neg (by omega)]; omega), fun _ => by rw [Nat.add_sub_cancel]; omega, rfl, rfl, rfl⟩
        · skip
          refine V_skipk [0, 3] (by simp only [proj, lk, reduceIte, Nat.reduceEqDiff]; rfl) ?_
          refine hK10 _ _ ?_; clear hK10
          refine V_reg T.mix (by kernel_rfl) ?_
          refine S_mv rfl ?_
          first | refine S_add rfl rfl (by omega) (by omega) ?_ | refine S_bin rfl rfl rfl ?_
          refine S_as rfl ?_
          refine S_nilk [0, 3] (by simp only [proj, lk, reduceIte, Nat.reduceEqDiff]; rfl) ?_
          exact hK7 _ _ ⟨_, by omega, i + 1, by omega, ccG_step (by omega) hq hgx (by rw [laI, if_pos (by omega)]; omega), fun _ => by rw [Nat.add_sub_cancel]; omega, rfl, rfl, rfl⟩
    · skip
      refine V_exitk [] rfl (by simp only [proj, lk, reduceIte, Nat.reduceEqDiff]; rfl) ?_
      refine hK5 _ _ ?_; clear hK5
      refine V_sr T.mix (by kernel_rfl) (fun K18 hK18 => ?_)
      refine S_as rfl ?_
      refine S_nil (hK18 _ _ (V_keep [2] (by simp only [proj, lk, reduceIte, Nat.reduceEqDiff]; rfl) ?_)); clear hK18
      refine V_ret ?_
      refine hR _ _ (ret1 rfl rfl ?_)
      have hie : i = xs.length := by omega
      exact ⟨by unfold ccE; rw [if_neg (by omega), hq, hie, List.drop_length]; rfl, rfl⟩
set_option maxHeartbeats 1600000 in
theorem wadd_spec (h : Heap) (C X : Nat) (W : WC) (cl : Nat → Option (List Int)) (s : TS) (p : Nat) (w : WX h C X W cl s p) (a : Option Addr) (cap : Nat) (xs : List Int) (ho : IL h a cap xs) (hl : xs.length ≤ 1099511627776) (ha : ∀ b, blkA a = some b → b ≠ C) (le : Bool) :
    FC Tryz.prog 90 (#[.pointer (some ⟨C, 0, none⟩), .slice a xs.length cap, .bool (decide (le = true))] : Array Value) h fun rv h' => ∃ W', rv = .tuple #[.int .i64 ((addV cl xs le).1 : Int), .int .i64 ((addV cl xs le).2 : Int)] ∧ WX h' C X W' (addS cl xs le) s p ∧ W'.vis = W.vis ∧ (∀ i, dueW W' i = true → dueW W i = true ∨ (ccE xs = 0 ∧ frI cl (loI le) (nI le) = some i)) ∧ Ext (fun x => x = C) h h' := by
  have hB := w.b
  have hE := Ext.refl (fun x => x = C) h
  have hlt := w.i.lt
  have hI := ho
  refine FC_of [(0, .pointer (some ⟨C, 0, none⟩)), (1, .slice a xs.length cap), (2, .bool (decide (le = true)))] Tryz.func90 rfl Tryz.ntmps90 (by simp) rfl (fun R hR => ?_)
  refine V_sr T.mix (by kernel_rfl) (fun K1 hK1 => ?_)
  refine S_as rfl ?_
  refine S_as rfl ?_
  refine S_nil (hK1 _ _ (V_keep [0, 1, 2] (by simp only [proj, lk, reduceIte, Nat.reduceEqDiff]; rfl) ?_)); clear hK1
  refine V_sr T.mix (by kernel_rfl) (fun K2 hK2 => ?_)
  refine S_mv rfl ?_
  refine S_call T.hb116 rfl ?_
  refine FC.mono (checkclause_spec h a cap xs ho hl) ?_
  rintro v' h' ⟨rfl, rfl⟩
  refine S_as rfl ?_
  refine S_nil (hK2 _ _ (V_keep [0, 1, 2, 8] (by simp only [proj, lk, reduceIte, Nat.reduceEqDiff]; rfl) ?_)); clear hK2
  refine V_seq (fun K3 hK3 => ?_)
  refine V_sr T.mix (by kernel_rfl) (fun K4 hK4 => ?_)
  refine S_mv rfl ?_
  refine S_bin rfl rfl rfl ?_
  refine S_nil (hK4 _ _ (V_keep [0, 1, 2, 8, 16] (by simp only [proj, lk, reduceIte, Nat.reduceEqDiff]; rfl) ?_)); clear hK4
  refine V_condp rfl (fun c92 => ?_) (fun c92 => ?_)
  · skip
    refine V_sr T.mix (by kernel_rfl) (fun K5 hK5 => ?_)
    refine S_mv rfl ?_
    refine S_as rfl ?_
    refine S_as rfl ?_
    refine S_nil (hK5 _ _ (V_keep [6, 7] (by simp only [proj, lk, reduceIte, Nat.reduceEqDiff]; rfl) ?_)); clear hK5
    refine V_ret ?_
    refine hR _ _ (ret2 rfl rfl rfl ?_)
    refine ⟨W, ?_, ?_, rfl, fun i e => .inl e, hE⟩
    · rw [show addV cl xs le = (0, ccE xs) by unfold addV; rw [if_neg (by omega)]]; rfl
    · rw [show addS cl xs le = cl by unfold addS; rw [if_neg (by omega)]]; exact w
  · skip
    have hz : ccE xs = 0 := by omega
    have hnr := ccE_nrm hz
    have hln := hnr.len
    refine V_skipk [0, 1, 2] (by simp only [proj, lk, reduceIte, Nat.reduceEqDiff]; rfl) ?_
    refine hK3 _ _ ?_; clear hK3
    refine V_sr T.mix (by kernel_rfl) (fun K6 hK6 => ?_)
    refine S_mv rfl ?_
    refine S_mv rfl ?_
    refine S_call T.hb117 rfl ?_
    refine FC.mono (room_spec h C X W hB hlt.1 le) ?_
    rintro v' h' ⟨r, rfl, rfl, hroom⟩
    refine S_as rfl ?_
    refine S_nil (hK6 _ _ (V_keep [0, 1, 9] (by simp only [proj, lk, reduceIte, Nat.reduceEqDiff]; rfl) ?_)); clear hK6
    refine V_seq (fun K7 hK7 => ?_)
    refine V_sr T.mix (by kernel_rfl) (fun K8 hK8 => ?_)
    refine S_mv rfl ?_
    refine S_bin rfl rfl rfl ?_
    refine S_nil (hK8 _ _ (V_keep [0, 1, 9, 22] (by simp only [proj, lk, reduceIte, Nat.reduceEqDiff]; rfl) ?_)); clear hK8
    refine V_condp rfl (fun c96 => ?_) (fun c96 => ?_)
    · skip
      refine V_sr T.mix (by kernel_rfl) (fun K9 hK9 => ?_)
      refine S_as rfl ?_
      refine S_as rfl ?_
      refine S_nil (hK9 _ _ (V_keep [6, 7] (by simp only [proj, lk, reduceIte, Nat.reduceEqDiff]; rfl) ?_)); clear hK9
      refine V_ret ?_
      refine hR _ _ (ret2 rfl rfl rfl ?_)
      have hfn : frI cl (loI le) (nI le) = none := frI_no _ _ (fun j h1 h2 => by
        rcases hroom with ⟨n, e, _⟩ | ⟨_, hal⟩
        · omega
        · rw [loI_n] at h2; rw [← w.i.u (by cases le <;> simp at h2 <;> omega)]; exact hal j h1 h2)
      refine ⟨W, ?_, ?_, rfl, fun i e => .inl e, hE⟩
      · rw [show addV cl xs le = (0, 12) by unfold addV; rw [if_pos hz, hfn]]; rfl
      · rw [show addS cl xs le = cl by unfold addS; rw [if_pos hz, hfn]]; exact w
    · skip
      obtain ⟨id, rfl, hr1, hr2, hr3, hr4⟩ : ∃ n : Nat, r = n ∧ (if le then 40 else 0) ≤ n ∧ n < (if le then 52 else 40) ∧ W.used.testBit n = false ∧ ∀ j, (if le then 40 else 0) ≤ j → j < n → W.used.testBit j = true := by
        rcases hroom with e | e
        · exact e
        · omega
      have hid : id < 52 := by cases le <;> simp at hr2 <;> omega
      have hu0 := w.i.u hid
      rw [hr3] at hu0
      have hfr : frI cl (loI le) (nI le) = some id := frI_hit _ _ hr1 (by rw [loI_n]; exact hr2) hu0.symm (fun j h1 h2 => by rw [← w.i.u (by omega)]; exact hr4 j h1 h2)
      have hLo := w.i.lo id hid
      have hdn := loc_sdn hLo (show (vw W id).u = false from hr3)
      refine V_skipk [0, 1, 9] (by simp only [proj, lk, reduceIte, Nat.reduceEqDiff]; rfl) ?_
      refine hK7 _ _ ?_; clear hK7
      refine V_sr T.mix (by kernel_rfl) (fun K10 hK10 => ?_)
      refine S_mv rfl ?_
      first | refine S_mul rfl rfl (by omega) (by omega) ?_ | refine S_bin rfl rfl rfl ?_
      refine S_as rfl ?_
      refine S_nil (hK10 _ _ (V_keep [0, 1, 9, 10] (by simp only [proj, lk, reduceIte, Nat.reduceEqDiff]; rfl) ?_)); clear hK10
      refine V_seq (fun K11 hK11 => ?_)
      refine V_sr T.mix (by kernel_rfl) (fun K12 hK12 => ?_)
      refine S_as rfl ?_
      refine S_nil (hK12 _ _ (V_keep [0, 1, 9, 10, 11] (by simp only [proj, lk, reduceIte, Nat.reduceEqDiff]; rfl) ?_)); clear hK12
      refine V_block ?_
      refine V_loop (fun m l h' => ∃ (i : Nat) (hk : Heap) (lz : Nat → Int), (i ≤ xs.length) ∧ (WB hk C X { W with lits := lz }) ∧ (∀ j, j < i → lz (id * 12 + j) = xs.getD j 0) ∧ (∀ j, (j < id * 12 ∨ id * 12 + 12 ≤ j) → lz j = W.lits j) ∧ (Ext (fun x => x = C) h hk) ∧ m = xs.length - i ∧ l = [(0, .pointer (some ⟨C, 0, none⟩)), (1, .slice a xs.length cap), (9, .int .i64 (id : Int)), (10, .int .i64 ((id * 12 : Nat) : Int)), (11, .int .i64 (i : Int))] ∧ hk = h') _ ⟨0, h, W.lits, by omega, hB, fun j hj => by omega, fun j _ => rfl, hE, rfl, rfl, rfl⟩ ?_
      rintro m l h' ⟨i, hk, lz, hi, hBk, hok1, hoth, hEk, rfl, rfl, rfl⟩ K13 hK13
      clear hB hE hI
      have hB := hBk
      have hE := hEk
      have hI := ho.ext hE (fun b e => ha b e)
      refine V_seq (fun K14 hK14 => ?_)
      refine V_sr T.mix (by kernel_rfl) (fun K15 hK15 => ?_)
      refine S_mv rfl ?_
      refine S_mv rfl ?_
      refine S_lenl T.el49 rfl ?_
      refine S_bin rfl rfl rfl ?_
      refine S_nil (hK15 _ _ (V_keep [0, 1, 9, 10, 11, 28] (by simp only [proj, lk, reduceIte, Nat.reduceEqDiff]; rfl) ?_)); clear hK15
      refine V_condp rfl (fun c100 => ?_) (fun c100 => ?_)
      · skip
        obtain ⟨bb, rfl, _, _, _⟩ := hI.get (by omega)
        refine V_skipk [0, 1, 9, 10, 11] (by simp only [proj, lk, reduceIte, Nat.reduceEqDiff]; rfl) ?_
        refine hK14 _ _ ?_; clear hK14
        refine V_seq (fun K16 hK16 => ?_)
        refine V_block ?_
        refine V_reg T.mix (by kernel_rfl) ?_
        refine S_mv rfl ?_
        refine S_mv rfl ?_
        refine S_mv rfl ?_
        first | refine S_add rfl rfl (by omega) (by omega) ?_ | refine S_bin rfl rfl rfl ?_
        refine S_mv rfl ?_
        refine S_mv rfl ?_
        first | refine S_ixn T.el49 rfl rfl (by omega) ?_ | refine S_ix1 T.el49 rfl rfl (by omega) (by omega) ?_ | refine S_ix T.el49 rfl rfl (by omega) (by omega) ?_
        refine S_ldK T.ag3 rfl (fun K' hK' => ?_)
        simp (disch := omega) only [hI.at, oP_some, Nat.add_zero]
        refine hK' _ ?_; clear hK' K'
        refine S_nc rfl ?_
        first | refine S_fa0 T.f78_1 rfl ?_ | refine S_fa T.f78_1 rfl ?_
        first | refine S_ixan T.ar73 rfl rfl (by omega) ?_ | refine S_ixa1 T.ar73 rfl rfl (by omega) (by omega) ?_
        refine S_st T.sz3 rfl rfl rfl rfl (by simp (disch := omega) only [wok hB]) ?_
        generalize hh : putH _ _ _ = hk1
        have hBhk1 : WB hk1 C X { W with lits := upI lz (id * 12 + i) (xs.getD i 0) } := by rw [← hh]; exact wsLit hB (id * 12 + i) (xs.getD i 0) (by omega)
        have hEhk1 : Ext (fun x => x = C) hk hk1 := by rw [← hh]; exact Ext.put _ _ rfl
        clear hh
        replace hE := hE.trans hEhk1
        clear hB
        have hB := hBhk1
        refine S_nilk [0, 1, 9, 10, 11] (by simp only [proj, lk, reduceIte, Nat.reduceEqDiff]; rfl) ?_
        refine hK16 _ _ ?_; clear hK16
        refine V_reg T.mix (by kernel_rfl) ?_
        refine S_mv rfl ?_
        first | refine S_add rfl rfl (by omega) (by omega) ?_ | refine S_bin rfl rfl rfl ?_
        refine S_as rfl ?_
        refine S_nilk [0, 1, 9, 10, 11] (by simp only [proj, lk, reduceIte, Nat.reduceEqDiff]; rfl) ?_
        exact hK13 _ _ ⟨_, by omega, i + 1, hk1, upI lz (id * 12 + i) (xs.getD i 0), by omega, hB, fun j hj => by rw [upI_in]; split; (rename_i q; rw [q]); (exact hok1 j (by omega)), fun j hj => by rw [upI_ne (by omega)]; exact hoth j hj, hE, rfl, rfl, rfl⟩
      · skip
        refine V_exitk [0, 1, 9] rfl (by simp only [proj, lk, reduceIte, Nat.reduceEqDiff]; rfl) ?_
        refine hK11 _ _ ?_; clear hK11
        refine V_sr T.mix (by kernel_rfl) (fun K17 hK17 => ?_)
        refine S_mv rfl ?_
        refine S_mv rfl ?_
        refine S_mv rfl ?_
        refine S_lenl T.el49 rfl ?_
        refine S_nc rfl ?_
        first | refine S_fa0 T.f78_2 rfl ?_ | refine S_fa T.f78_2 rfl ?_
        first | refine S_ixan T.ar74 rfl rfl (by omega) ?_ | refine S_ixa1 T.ar74 rfl rfl (by omega) (by omega) ?_
        refine S_st T.sz3 rfl rfl rfl rfl (by simp (disch := omega) only [wok hB]) ?_
        generalize hh : putH _ _ _ = h1
        have hBh1 : WB h1 C X { W with lits := lz, size := upN W.size id xs.length } := by rw [← hh]; exact wsSize hB id xs.length hid
        have hEh1 : Ext (fun x => x = C) hk h1 := by rw [← hh]; exact Ext.put _ _ rfl
        clear hh
        replace hE := hE.trans hEh1
        clear hB
        have hB := hBh1
        refine S_nil (hK17 _ _ (V_keep [0, 9] (by simp only [proj, lk, reduceIte, Nat.reduceEqDiff]; rfl) ?_)); clear hK17
        refine V_sr T.mix (by kernel_rfl) (fun K18 hK18 => ?_)
        refine S_mv rfl ?_
        refine S_call T.hb118 rfl ?_
        refine FC.mono (bit_spec h1 id hid) ?_
        rintro v' h' ⟨rfl, rfl⟩
        refine S_as rfl ?_
        refine S_nil (hK18 _ _ (V_keep [0, 9, 12] (by simp only [proj, lk, reduceIte, Nat.reduceEqDiff]; rfl) ?_)); clear hK18
        refine V_sr T.mix (by kernel_rfl) (fun K19 hK19 => ?_)
        refine S_mv rfl ?_
        refine S_nc rfl ?_
        first | refine S_fa0 T.f78_3 rfl ?_ | refine S_fa T.f78_3 rfl ?_
        refine S_ldK T.ag75 rfl (fun K' hK' => ?_)
        simp (disch := omega) only [wlT hB, wlLit hB, wlSize hB, wlUsed hB, wlFresh hB, wlWeak hB, wlList hB, wlVis hB, oP_some, Nat.add_zero]
        refine hK' _ ?_; clear hK' K'
        refine S_mv rfl ?_
        refine S_nor W.used (2 ^ id) _ rfl rfl rfl rfl rfl (t52 hlt.1) (t52 (p52 hid)) ?_
        refine S_nc rfl ?_
        first | refine S_fa0 T.f78_3 rfl ?_ | refine S_fa T.f78_3 rfl ?_
        refine S_st T.sz75 rfl rfl rfl rfl (by simp (disch := omega) only [wok hB]) ?_
        generalize hh : putH _ _ _ = h2
        have hBh2 : WB h2 C X { W with lits := lz, size := upN W.size id xs.length, used := W.used ||| 2 ^ id } := by rw [← hh]; exact wsUsed hB (W.used ||| 2 ^ id)
        have hEh2 : Ext (fun x => x = C) h1 h2 := by rw [← hh]; exact Ext.put _ _ rfl
        clear hh
        replace hE := hE.trans hEh2
        clear hB
        have hB := hBh2
        refine S_nil (hK19 _ _ (V_keep [0, 9, 12] (by simp only [proj, lk, reduceIte, Nat.reduceEqDiff]; rfl) ?_)); clear hK19
        refine V_sr T.mix (by kernel_rfl) (fun K20 hK20 => ?_)
        refine S_mv rfl ?_
        refine S_nc rfl ?_
        first | refine S_fa0 T.f78_4 rfl ?_ | refine S_fa T.f78_4 rfl ?_
        refine S_ldK T.ag75 rfl (fun K' hK' => ?_)
        simp (disch := omega) only [wlT hB, wlLit hB, wlSize hB, wlUsed hB, wlFresh hB, wlWeak hB, wlList hB, wlVis hB, oP_some, Nat.add_zero]
        refine hK' _ ?_; clear hK' K'
        refine S_mv rfl ?_
        refine S_nor W.fresh (2 ^ id) _ rfl rfl rfl rfl rfl (t52 hlt.2.1) (t52 (p52 hid)) ?_
        refine S_nc rfl ?_
        first | refine S_fa0 T.f78_4 rfl ?_ | refine S_fa T.f78_4 rfl ?_
        refine S_st T.sz75 rfl rfl rfl rfl (by simp (disch := omega) only [wok hB]) ?_
        generalize hh : putH _ _ _ = h3
        have hBh3 : WB h3 C X { W with lits := lz, size := upN W.size id xs.length, used := W.used ||| 2 ^ id, fresh := W.fresh ||| 2 ^ id } := by rw [← hh]; exact wsFresh hB (W.fresh ||| 2 ^ id)
        have hEh3 : Ext (fun x => x = C) h2 h3 := by rw [← hh]; exact Ext.put _ _ rfl
        clear hh
        replace hE := hE.trans hEh3
        clear hB
        have hB := hBh3
        refine S_nil (hK20 _ _ (V_keep [9] (by simp only [proj, lk, reduceIte, Nat.reduceEqDiff]; rfl) ?_)); clear hK20
        refine V_sr T.mix (by kernel_rfl) (fun K21 hK21 => ?_)
        refine S_mv rfl ?_
        refine S_as rfl ?_
        refine S_as rfl ?_
        refine S_nil (hK21 _ _ (V_keep [6, 7] (by simp only [proj, lk, reduceIte, Nat.reduceEqDiff]; rfl) ?_)); clear hK21
        refine V_ret ?_
        refine hR _ _ (ret2 rfl rfl rfl ?_)
        refine ⟨{ W with lits := lz, size := upN W.size id xs.length, used := W.used ||| 2 ^ id, fresh := W.fresh ||| 2 ^ id }, ?_, ?_, rfl, fun i e => ?_, hE⟩
        · rw [show addV cl xs le = (id, 0) by unfold addV; rw [if_pos hz, hfr]]; rfl
        · rw [show addS cl xs le = upO cl id (some xs) by unfold addS; rw [if_pos hz, hfr]]
          have hvw : ∀ j, j ≠ id → vw { W with lits := lz, size := upN W.size id xs.length, used := W.used ||| 2 ^ id, fresh := W.fresh ||| 2 ^ id } j = vw W j := fun j hj => vw_eq (or_ne hj) (or_ne hj) rfl (upN_ne hj) (fun q hq => hoth _ (by omega)) (fun q hq => rfl)
          refine ⟨hB, w.i.set hid hvw (Go.Wat.Loc.fresh rfl hnr ?_ ?_ ?_ hdn.2.1 (fun q hq => hdn.2.2.2 q hq)), w.t.ext hE (fun e => w.ne e.symm), w.ne⟩
          · have harr := Arr.of hnr.nodup (f := fun j => if j < 12 then lz (id * 12 + j) else 0) (fun j hj => by rw [if_pos (by omega)]; exact hok1 j (by omega))
            simp only [vw, upN_self]; exact harr
          · simp only [vw]; rw [or_bit]; simp
          · simp only [vw]; rw [or_bit]; simp
        · unfold dueW at e ⊢; simp only [or_bit] at e
          by_cases z : id = i
          · right; rw [← z]; exact ⟨hz, hfr⟩
          · left; simpa [z] using e
end Go.Proofs.Qxb6500401aGreat
