import Derived.Test.Qxb6500404aGreatXh
set_option linter.unusedVariables false
set_option linter.unusedSimpArgs false
namespace Go.Proofs.Qxb6500404aGreat.HufW
open Go.Eng Go.Huf

def codF (lf : Nat → Nat) (N : Nat) (sym : Int) : Nat × Nat × Nat := if 0 ≤ sym ∧ sym < N ∧ 0 < lf sym.toNat then (cd lf N sym.toNat, lf sym.toNat, 0) else (0, 0, 2)
def fndI (lf : Nat → Nat) (N : Nat) (x hv : Int) : Nat × Nat × Nat := if hv < 0 ∨ 16 < hv ∨ x < 0 ∨ 2 ^ hv.toNat ≤ x.toNat then (0, 0, 2) else fnd lf N x.toNat hv.toNat
def tri (t : Nat × Nat × Nat) : Value := .tuple #[.int .i64 (t.1 : Int), .int .i64 (t.2.1 : Int), .int .i64 (t.2.2 : Int)]
theorem codF_no {lf : Nat → Nat} {N : Nat} {sym : Int} (h : ¬ (0 ≤ sym ∧ sym < N ∧ 0 < lf sym.toNat)) : codF lf N sym = (0, 0, 2) := if_neg h
theorem codF_ok {lf : Nat → Nat} {N : Nat} {sym : Int} (h : 0 ≤ sym ∧ sym < N ∧ 0 < lf sym.toNat) : codF lf N sym = (cd lf N sym.toNat, lf sym.toNat, 0) := if_pos h
theorem fndI_no {lf : Nat → Nat} {N : Nat} {x hv : Int} (h : hv < 0 ∨ 16 < hv ∨ x < 0 ∨ 2 ^ hv.toNat ≤ x.toNat) : fndI lf N x hv = (0, 0, 2) := if_pos h
theorem fndI_ok {lf : Nat → Nat} {N a k : Nat} (h1 : k ≤ 16) (h2 : a < 2 ^ k) : fndI lf N (a : Int) (k : Int) = fnd lf N a k := by
  unfold fndI
  rw [Int.toNat_natCast, Int.toNat_natCast, if_neg (by omega)]
theorem p16 {a : Nat} (h : a ≤ 16) : 2 ^ a ≤ 65536 := Nat.pow_le_pow_right (n := 2) (by omega) h
/-- the model's coder -/
structure MK (h : Heap) (M : Nat) (la cb : Option Addr) (lf : Nat → Nat) (N : Nat) : Prop where
  t : B h M #[.slice la N N, .slice cb N N] 110
  l : IL h la N (il N lf)
  c : IL h cb N (il N (cd lf N))
  lw : Lw lf N
  n : N ≤ 265
theorem MK.ext {h h' : Heap} {M : Nat} {la cb : Option Addr} {lf : Nat → Nat} {N : Nat} {S : Nat → Prop} (k : MK h M la cb lf N) (he : Ext S h h') (h1 : ¬ S M) (h2 : ∀ b, blkA la = some b → ¬ S b) (h3 : ∀ b, blkA cb = some b → ¬ S b) : MK h' M la cb lf N := ⟨k.t.ext he h1, k.l.ext he h2, k.c.ext he h3, k.lw, k.n⟩
theorem MK.new {h h' : Heap} {M : Nat} {la cb : Option Addr} {lf : Nat → Nat} {N : Nat} (k : MK h M la cb lf N) (he : Ext (fun _ => False) h h') : MK h' M la cb lf N := k.ext he (fun f => f) (fun _ _ f => f) (fun _ _ f => f)
theorem MK.q {h : Heap} {M : Nat} {la cb : Option Addr} {lf : Nat → Nat} {N : Nat} (k : MK h M la cb lf N) : cellH h ⟨M, 0, none⟩ = some (.slice la N N) ∧ cellH h ⟨M, 1, none⟩ = some (.slice cb N N) := ⟨k.t.cell 0, k.t.cell 1⟩
theorem MK.at {h : Heap} {M : Nat} {la cb : Option Addr} {lf : Nat → Nat} {N : Nat} (k : MK h M la cb lf N) (hN : 0 < N) : ∃ lb kb, la = some ⟨lb, 0, none⟩ ∧ cb = some ⟨kb, 0, none⟩ ∧ (∀ j, j < N → cellH h ⟨lb, j, none⟩ = some (.int .i64 (lf j : Int))) ∧ ∀ j, j < N → cellH h ⟨kb, j, none⟩ = some (.int .i64 (cd lf N j : Int)) := by
  obtain ⟨lb, e1, _⟩ := k.l.get (by rw [il_len]; exact hN)
  obtain ⟨kb, e2, _⟩ := k.c.get (by rw [il_len]; exact hN)
  have hl := k.l; have hc := k.c
  rw [e1] at hl; rw [e2] at hc
  exact ⟨lb, kb, e1, e2, hl.nat, hc.nat⟩
theorem MK.z (h : Heap) (M : Nat) (hb : B h M #[.slice none 0 0, .slice none 0 0] 110) : MK h M none none (fun _ => 0) 0 := ⟨hb, IL.nil _, IL.nil _, Lw.nil, by omega⟩
theorem CK.own {v : HC} {lf : Nat → Nat} (k : CK v lf) {a : Nat} : (∃ s, s < v.n ∧ hd lf v.n s a ∧ own lf v.n a v.n = some s) ∨ ((∀ s, s < v.n → ¬ hd lf v.n s a) ∧ own lf v.n a v.n = none) := by
  cases e : Huf.own lf v.n a v.n with
  | none => exact .inr ⟨own_none e, rfl⟩
  | some s => obtain ⟨h1, h2⟩ := own_some e; exact .inl ⟨s, h1, h2, rfl⟩
theorem fnd_no {lf : Nat → Nat} {N a k : Nat} (h : ∀ s, s < N → ¬ hd lf N s a) : fnd lf N a k = (0, 0, 8) := by
  unfold fnd
  cases e : Huf.own lf N a N with
  | none => rfl
  | some s => obtain ⟨h1, h2⟩ := own_some e; exact absurd h2 (h s h1)
theorem fnd_far {lf : Nat → Nat} {N a k s : Nat} (h : Ln lf N) (hs : s < N) (hh : hd lf N s a) (hk : k < lf s) : fnd lf N a k = (0, 0, 4) := by
  unfold fnd; rw [h.own hs hh]; simp only []; rw [if_neg (by omega)]
theorem and_mod (x w : Nat) : x &&& (2 ^ w - 1) = x % 2 ^ w := Nat.and_two_pow_sub_one_eq_mod x w
set_option maxHeartbeats 400000 in
theorem code_spec (h : Heap) (X : Nat) (u : HC) (c : CB h X u) (lf : Nat → Nat) (k : CK u lf) (sym : Int) :
    FC Tryz.prog 163 (#[.pointer (some ⟨X, 0, none⟩), .int .i64 sym] : Array Value) h fun rv h' => rv = tri (codF lf u.n sym) ∧ h = h' := by
  try clear q0 q1 q2 q3 q4 q5 q6 q7 q8 q9 q10 q11 q12 alens acode aroot asub awt aht anum apar adep aheap
  obtain ⟨q0, q1, q2, q3, q4, q5, q6, q7, q8, q9, q10, q11, q12⟩ := cq (c)
  obtain ⟨alens, acode, aroot, asub, awt, aht, anum, apar, adep, aheap⟩ := ca (c)
  have hn := k.n
  refine FC_of [(0, .pointer (some ⟨X, 0, none⟩)), (1, .int .i64 sym)] Tryz.func163 rfl Tryz.ntmps163 (by simp) rfl (fun R hR => ?_)
  refine V_sr T.mix (by kernel_rfl) (fun K1 hK1 => ?_)
  refine S_as rfl ?_
  refine S_as rfl ?_
  refine S_as rfl ?_
  refine S_nil (hK1 _ _ (V_keep [0, 1] (by simp only [proj, lk, reduceIte, Nat.reduceEqDiff]; rfl) ?_)); clear hK1
  refine V_seq (fun K2 hK2 => ?_)
  refine V_sr T.mix (by kernel_rfl) (fun K3 hK3 => ?_)
  refine S_mv rfl ?_
  refine S_bin rfl rfl rfl ?_
  refine S_mv rfl ?_
  refine S_dec (fun g138 => ?_) (fun g138 => ?_)
  · skip
    refine S_gf rfl ?_
    refine S_gf rfl ?_
    refine S_gf rfl ?_
    refine S_gf rfl ?_
    refine S_gf rfl ?_
    refine S_gf rfl ?_
    refine S_pt rfl rfl ?_
    refine S_nil (hK3 _ _ (V_keep [0, 1, 16] (by simp only [proj, lk, reduceIte, Nat.reduceEqDiff]; rfl) ?_)); clear hK3
    refine V_condt rfl ?_
    refine V_sr T.mix (by kernel_rfl) (fun K4 hK4 => ?_)
    refine S_as rfl ?_
    refine S_as rfl ?_
    refine S_as rfl ?_
    refine S_nil (hK4 _ _ (V_keep [4, 5, 6] (by simp only [proj, lk, reduceIte, Nat.reduceEqDiff]; rfl) ?_)); clear hK4
    refine V_ret ?_
    refine hR _ _ (ret3 rfl rfl rfl rfl ?_)
    exact ⟨by rw [codF_no (by omega)]; rfl, rfl⟩
  · skip
    refine S_gt rfl ?_
    refine S_mv rfl ?_
    refine S_gt rfl ?_
    refine S_mv rfl ?_
    refine S_gt rfl ?_
    refine S_nc rfl ?_
    refine S_gt rfl ?_
    first | refine S_fa0 T.f70_0 rfl ?_ | refine S_fa T.f70_0 rfl ?_
    refine S_gt rfl ?_
    refine S_ldK T.ag3 rfl (fun K' hK' => ?_)
    simp (disch := omega) only [q0, q1, q2, q3, q4, q5, q6, q7, q8, q9, q10, q11, q12, alens, acode, aroot, asub, awt, aht, anum, apar, adep, aheap, oP_some, Nat.add_zero]
    refine hK' _ ?_; clear hK' K'
    refine S_gt rfl ?_
    refine S_bin rfl rfl rfl ?_
    refine S_pf rfl rfl ?_
    refine S_nil (hK3 _ _ (V_keep [0, 1, 16] (by simp only [proj, lk, reduceIte, Nat.reduceEqDiff]; rfl) ?_)); clear hK3
    refine V_condp rfl (fun c138 => ?_) (fun c138 => ?_)
    · skip
      refine V_sr T.mix (by kernel_rfl) (fun K5 hK5 => ?_)
      refine S_as rfl ?_
      refine S_as rfl ?_
      refine S_as rfl ?_
      refine S_nil (hK5 _ _ (V_keep [4, 5, 6] (by simp only [proj, lk, reduceIte, Nat.reduceEqDiff]; rfl) ?_)); clear hK5
      refine V_ret ?_
      refine hR _ _ (ret3 rfl rfl rfl rfl ?_)
      exact ⟨by rw [codF_no (by omega)]; rfl, rfl⟩
    · skip
      obtain ⟨s, hs⟩ : ∃ s : Nat, sym = s := ⟨sym.toNat, by omega⟩
      subst hs
      have hls := k.le s (by omega)
      have hcs := k.cd s (by omega)
      refine V_skipk [0, 1] (by simp only [proj, lk, reduceIte, Nat.reduceEqDiff]; rfl) ?_
      refine hK2 _ _ ?_; clear hK2
      refine V_seq (fun K6 hK6 => ?_)
      refine V_sr T.mix (by kernel_rfl) (fun K7 hK7 => ?_)
      refine S_mv rfl ?_
      refine S_nc rfl ?_
      first | refine S_fa0 T.f70_1 rfl ?_ | refine S_fa T.f70_1 rfl ?_
      refine S_ldK T.ag56 rfl (fun K' hK' => ?_)
      simp (disch := omega) only [q0, q1, q2, q3, q4, q5, q6, q7, q8, q9, q10, q11, q12, alens, acode, aroot, asub, awt, aht, anum, apar, adep, aheap, oP_some, Nat.add_zero]
      refine hK' _ ?_; clear hK' K'
      refine S_mv rfl ?_
      first | refine S_ixn T.el56 rfl rfl (by omega) ?_ | refine S_ix1 T.el56 rfl rfl (by omega) (by omega) ?_ | refine S_ix T.el56 rfl rfl (by omega) (by omega) ?_
      refine S_ldK T.ag3 rfl (fun K' hK' => ?_)
      simp (disch := omega) only [q0, q1, q2, q3, q4, q5, q6, q7, q8, q9, q10, q11, q12, alens, acode, aroot, asub, awt, aht, anum, apar, adep, aheap, oP_some, Nat.add_zero]
      refine hK' _ ?_; clear hK' K'
      refine S_bin rfl rfl rfl ?_
      refine S_nil (hK7 _ _ (V_keep [0, 1, 24] (by simp only [proj, lk, reduceIte, Nat.reduceEqDiff]; rfl) ?_)); clear hK7
      refine V_condp rfl (fun c141 => ?_) (fun c141 => ?_)
      · skip
        refine V_sr T.mix (by kernel_rfl) (fun K8 hK8 => ?_)
        refine S_as rfl ?_
        refine S_as rfl ?_
        refine S_as rfl ?_
        refine S_nil (hK8 _ _ (V_keep [4, 5, 6] (by simp only [proj, lk, reduceIte, Nat.reduceEqDiff]; rfl) ?_)); clear hK8
        refine V_ret ?_
        refine hR _ _ (ret3 rfl rfl rfl rfl ?_)
        exact ⟨by rw [codF_no (by rw [Int.toNat_natCast]; omega)]; rfl, rfl⟩
      · skip
        refine V_skipk [0, 1] (by simp only [proj, lk, reduceIte, Nat.reduceEqDiff]; rfl) ?_
        refine hK6 _ _ ?_; clear hK6
        refine V_sr T.mix (by kernel_rfl) (fun K9 hK9 => ?_)
        refine S_mv rfl ?_
        refine S_nc rfl ?_
        first | refine S_fa0 T.f70_2 rfl ?_ | refine S_fa T.f70_2 rfl ?_
        refine S_ldK T.ag56 rfl (fun K' hK' => ?_)
        simp (disch := omega) only [q0, q1, q2, q3, q4, q5, q6, q7, q8, q9, q10, q11, q12, alens, acode, aroot, asub, awt, aht, anum, apar, adep, aheap, oP_some, Nat.add_zero]
        refine hK' _ ?_; clear hK' K'
        refine S_mv rfl ?_
        first | refine S_ixn T.el56 rfl rfl (by omega) ?_ | refine S_ix1 T.el56 rfl rfl (by omega) (by omega) ?_ | refine S_ix T.el56 rfl rfl (by omega) (by omega) ?_
        refine S_ldK T.ag3 rfl (fun K' hK' => ?_)
        simp (disch := omega) only [q0, q1, q2, q3, q4, q5, q6, q7, q8, q9, q10, q11, q12, alens, acode, aroot, asub, awt, aht, anum, apar, adep, aheap, oP_some, Nat.add_zero]
        refine hK' _ ?_; clear hK' K'
        refine S_mv rfl ?_
        refine S_nc rfl ?_
        first | refine S_fa0 T.f70_1 rfl ?_ | refine S_fa T.f70_1 rfl ?_
        refine S_ldK T.ag56 rfl (fun K' hK' => ?_)
        simp (disch := omega) only [q0, q1, q2, q3, q4, q5, q6, q7, q8, q9, q10, q11, q12, alens, acode, aroot, asub, awt, aht, anum, apar, adep, aheap, oP_some, Nat.add_zero]
        refine hK' _ ?_; clear hK' K'
        refine S_mv rfl ?_
        first | refine S_ixn T.el56 rfl rfl (by omega) ?_ | refine S_ix1 T.el56 rfl rfl (by omega) (by omega) ?_ | refine S_ix T.el56 rfl rfl (by omega) (by omega) ?_
        refine S_ldK T.ag3 rfl (fun K' hK' => ?_)
        simp (disch := omega) only [q0, q1, q2, q3, q4, q5, q6, q7, q8, q9, q10, q11, q12, alens, acode, aroot, asub, awt, aht, anum, apar, adep, aheap, oP_some, Nat.add_zero]
        refine hK' _ ?_; clear hK' K'
        refine S_as rfl ?_
        refine S_as rfl ?_
        refine S_as rfl ?_
        refine S_nil (hK9 _ _ (V_keep [4, 5, 6] (by simp only [proj, lk, reduceIte, Nat.reduceEqDiff]; rfl) ?_)); clear hK9
        refine V_ret ?_
        refine hR _ _ (ret3 rfl rfl rfl rfl ?_)
        exact ⟨by rw [codF_ok (by rw [Int.toNat_natCast]; omega), Int.toNat_natCast, ← hls, ← hcs]; rfl, rfl⟩
set_option maxHeartbeats 1600000 in
theorem find_spec (h : Heap) (X : Nat) (u : HC) (c : CB h X u) (lf : Nat → Nat) (k : CK u lf) (x hv : Int) :
    FC Tryz.prog 175 (#[.pointer (some ⟨X, 0, none⟩), .int .i64 x, .int .i64 hv] : Array Value) h fun rv h' => rv = tri (fndI lf u.n x hv) ∧ h = h' := by
  try clear q0 q1 q2 q3 q4 q5 q6 q7 q8 q9 q10 q11 q12 alens acode aroot asub awt aht anum apar adep aheap
  obtain ⟨q0, q1, q2, q3, q4, q5, q6, q7, q8, q9, q10, q11, q12⟩ := cq (c)
  obtain ⟨alens, acode, aroot, asub, awt, aht, anum, apar, adep, aheap⟩ := ca (c)
  have hn := k.n
  have hL := k.lw.ln
  refine FC_of [(0, .pointer (some ⟨X, 0, none⟩)), (1, .int .i64 x), (2, .int .i64 hv)] Tryz.func175 rfl Tryz.ntmps175 (by simp) rfl (fun R hR => ?_)
  refine V_sr T.mix (by kernel_rfl) (fun K1 hK1 => ?_)
  refine S_as rfl ?_
  refine S_as rfl ?_
  refine S_as rfl ?_
  refine S_nil (hK1 _ _ (V_keep [0, 1, 2] (by simp only [proj, lk, reduceIte, Nat.reduceEqDiff]; rfl) ?_)); clear hK1
  refine V_seq (fun K2 hK2 => ?_)
  refine V_sr T.mix (by kernel_rfl) (fun K3 hK3 => ?_)
  refine S_cut (K' := fun l h' => ∃ b : Bool, (b = true ↔ (hv < 0 ∨ 16 < hv ∨ x < 0 ∨ 2 ^ hv.toNat ≤ x.toNat)) ∧ l = [(0, .pointer (some ⟨X, 0, none⟩)), (1, .int .i64 x), (2, .int .i64 hv), (29, .bool b)] ∧ h = h') ?_ ?_
  · skip
    refine S_mv rfl ?_
    refine S_bin rfl rfl rfl ?_
    refine S_mv rfl ?_
    refine S_dec (fun g150 => ?_) (fun g150 => ?_)
    · skip
      refine S_gf rfl ?_
      refine S_gf rfl ?_
      refine S_pt rfl rfl ?_
      refine S_mv rfl ?_
      refine S_gf rfl ?_
      refine S_gf rfl ?_
      refine S_pt rfl rfl ?_
      refine S_mv rfl ?_
      refine S_gf rfl ?_
      refine S_gf rfl ?_
      refine S_gf rfl ?_
      refine S_gf rfl ?_
      refine S_gf rfl ?_
      refine S_pt rfl rfl ?_
      exact S_nilk [0, 1, 2, 29] (by simp only [proj, lk, reduceIte, Nat.reduceEqDiff]; rfl) ⟨_, (by first | (simp only [decide_eq_true_eq]; omega) | (simp; omega)), rfl, rfl⟩
    · skip
      refine S_gt rfl ?_
      refine S_mv rfl ?_
      refine S_gt rfl ?_
      refine S_bin rfl rfl rfl ?_
      refine S_pf rfl rfl ?_
      refine S_mv rfl ?_
      refine S_dec (fun g150a => ?_) (fun g150a => ?_)
      · skip
        refine S_gf rfl ?_
        refine S_gf rfl ?_
        refine S_pt rfl rfl ?_
        refine S_mv rfl ?_
        refine S_gf rfl ?_
        refine S_gf rfl ?_
        refine S_gf rfl ?_
        refine S_gf rfl ?_
        refine S_gf rfl ?_
        refine S_pt rfl rfl ?_
        exact S_nilk [0, 1, 2, 29] (by simp only [proj, lk, reduceIte, Nat.reduceEqDiff]; rfl) ⟨_, (by first | (simp only [decide_eq_true_eq]; omega) | (simp; omega)), rfl, rfl⟩
      · skip
        refine S_gt rfl ?_
        refine S_mv rfl ?_
        refine S_gt rfl ?_
        refine S_bin rfl rfl rfl ?_
        refine S_pf rfl rfl ?_
        refine S_mv rfl ?_
        refine S_dec (fun g150b => ?_) (fun g150b => ?_)
        · skip
          refine S_gf rfl ?_
          refine S_gf rfl ?_
          refine S_gf rfl ?_
          refine S_gf rfl ?_
          refine S_gf rfl ?_
          refine S_pt rfl rfl ?_
          exact S_nilk [0, 1, 2, 29] (by simp only [proj, lk, reduceIte, Nat.reduceEqDiff]; rfl) ⟨_, (by first | (simp only [decide_eq_true_eq]; omega) | (simp; omega)), rfl, rfl⟩
        · skip
          refine S_gt rfl ?_
          refine S_mv rfl ?_
          refine S_gt rfl ?_
          refine S_mv rfl ?_
          refine S_gt rfl ?_
          refine S_cvN hv.toNat T.us3 T.in105 rfl (by omega) (tu64 (by omega)) ?_
          refine S_gt rfl ?_
          obtain ⟨dv, hdv⟩ : ∃ d, d = x.toNat / 2 ^ hv.toNat := ⟨_, rfl⟩
          have hdz : dv = 0 ↔ x.toNat < 2 ^ hv.toNat := by rw [hdv]; exact Nat.div_eq_zero_iff_lt (pp2 _)
          refine S_nshr x.toNat hv.toNat dv rfl rfl (by omega) rfl hdv.symm (show hv.toNat ≤ 64 by omega) ?_
          refine S_gt rfl ?_
          refine S_bin rfl rfl rfl ?_
          refine S_pf rfl rfl ?_
          exact S_nilk [0, 1, 2, 29] (by simp only [proj, lk, reduceIte, Nat.reduceEqDiff]; rfl) ⟨_, (by first | (simp only [decide_eq_true_eq]; omega) | (simp; omega)), rfl, rfl⟩
  rintro l h' ⟨b, hb150, rfl, rfl⟩
  refine hK3 _ _ ?_; clear hK3
  refine V_condb rfl (fun c150 => ?_) (fun c150 => ?_)
  · replace c150 := hb150.1 c150
    refine V_sr T.mix (by kernel_rfl) (fun K5 hK5 => ?_)
    refine S_as rfl ?_
    refine S_as rfl ?_
    refine S_as rfl ?_
    refine S_nil (hK5 _ _ (V_keep [6, 7, 8] (by simp only [proj, lk, reduceIte, Nat.reduceEqDiff]; rfl) ?_)); clear hK5
    refine V_ret ?_
    refine hR _ _ (ret3 rfl rfl rfl rfl ?_)
    exact ⟨by rw [fndI_no c150]; rfl, rfl⟩
  · replace c150 : ¬ _ := fun hp => Bool.false_ne_true (c150.symm.trans (hb150.2 hp))
    obtain ⟨a, ha⟩ : ∃ a : Nat, x = a := ⟨x.toNat, by omega⟩
    obtain ⟨b2, hb2⟩ : ∃ b2 : Nat, hv = b2 := ⟨hv.toNat, by omega⟩
    subst ha hb2
    rw [Int.toNat_natCast, Int.toNat_natCast] at c150
    have hk16 : b2 ≤ 16 := by omega
    have hak : a < 2 ^ b2 := by omega
    have ha16 := p16 hk16
    refine V_skipk [0, 1, 2] (by simp only [proj, lk, reduceIte, Nat.reduceEqDiff]; rfl) ?_
    refine hK2 _ _ ?_; clear hK2
    refine V_sr T.mix (by kernel_rfl) (fun K6 hK6 => ?_)
    refine S_mv rfl ?_
    refine S_nc rfl ?_
    first | refine S_fa0 T.f70_3 rfl ?_ | refine S_fa T.f70_3 rfl ?_
    refine S_ldK T.ag56 rfl (fun K' hK' => ?_)
    simp (disch := omega) only [q0, q1, q2, q3, q4, q5, q6, q7, q8, q9, q10, q11, q12, alens, acode, aroot, asub, awt, aht, anum, apar, adep, aheap, oP_some, Nat.add_zero]
    refine hK' _ ?_; clear hK' K'
    refine S_mv rfl ?_
    refine S_andm 63 6 64 rfl rfl rfl (by decide) (by decide) (by omega) (by omega) ?_
    rw [show ((a : Nat) : Int) % 64 = ((a % 64 : Nat) : Int) by omega]
    first | refine S_ixn T.el56 rfl rfl (by omega) ?_ | refine S_ix1 T.el56 rfl rfl (by omega) (by omega) ?_ | refine S_ix T.el56 rfl rfl (by omega) (by omega) ?_
    refine S_ldK T.ag3 rfl (fun K' hK' => ?_)
    simp (disch := omega) only [q0, q1, q2, q3, q4, q5, q6, q7, q8, q9, q10, q11, q12, alens, acode, aroot, asub, awt, aht, anum, apar, adep, aheap, oP_some, Nat.add_zero]
    refine hK' _ ?_; clear hK' K'
    refine S_as rfl ?_
    refine S_nil (hK6 _ _ (V_keep [0, 1, 2, 9] (by simp only [proj, lk, reduceIte, Nat.reduceEqDiff]; rfl) ?_)); clear hK6
    refine V_seqJ (fun l h' => ∃ (cv : Int), ((∃ s, s < u.n ∧ hd lf u.n s a ∧ cv = (s * 16 + lf s : Nat)) ∨ ((∀ s, s < u.n → ¬ hd lf u.n s a) ∧ cv = 0)) ∧ l = [(2, .int .i64 (b2 : Int)), (9, .int .i64 cv)] ∧ h = h') ?_ ?_
    · skip
      refine V_sr T.mix (by kernel_rfl) (fun K8 hK8 => ?_)
      refine S_mv rfl ?_
      refine S_bin rfl rfl rfl ?_
      refine S_nil (hK8 _ _ (V_keep [0, 1, 2, 9, 39] (by simp only [proj, lk, reduceIte, Nat.reduceEqDiff]; rfl) ?_)); clear hK8
      refine V_condp rfl (fun c154 => ?_) (fun c154 => ?_)
      · skip
        obtain ⟨t1, t2, t3⟩ := k.tb.link (show a % 64 < 64 by omega) c154
        have hfar := k.tb.far (x := a) c154
        obtain ⟨wd, hwd⟩ : ∃ w, w = mx lf u.n (a % 64) u.n := ⟨_, rfl⟩
        obtain ⟨st_, hst⟩ : ∃ w, w = tp lf u.n (a % 64) := ⟨_, rfl⟩
        have hw4 := hL.mx4 (a % 64)
        obtain ⟨lk_, hlkv⟩ : ∃ w, w = st_ * 16 + wd := ⟨_, rfl⟩
        have hlk : u.root (a % 64) = -((lk_ : Nat) : Int) := by rw [t2, hlkv, hst, hwd]
        have htp := hL.tp_le (a % 64 + 1)
        rw [tp_next t1] at htp
        rw [← hwd] at htp hw4 hfar
        rw [← hst] at htp hfar
        have hp2 : 2 ^ wd ≤ 16 := Nat.pow_le_pow_right (n := 2) (by omega) hw4
        have hpwd := pp2 wd
        refine V_sr T.mix (by kernel_rfl) (fun K9 hK9 => ?_)
        refine S_mv rfl ?_
        rw [hlk]
        refine S_neg rfl (by omega) (by omega) ?_
        rw [show -(-((lk_ : Nat) : Int)) = ((lk_ : Nat) : Int) by omega]
        refine S_as rfl ?_
        refine S_nil (hK9 _ _ (V_keep [0, 1, 2, 10] (by simp only [proj, lk, reduceIte, Nat.reduceEqDiff]; rfl) ?_)); clear hK9
        refine V_sr T.mix (by kernel_rfl) (fun K10 hK10 => ?_)
        refine S_mv rfl ?_
        refine S_nshr a 6 (a / 64) rfl rfl rfl rfl rfl (by decide) ?_
        refine S_mv rfl ?_
        refine S_andm 15 4 16 rfl rfl rfl (by decide) (by decide) (by omega) (by omega) ?_
        rw [show ((lk_ : Nat) : Int) % 16 = ((wd : Nat) : Int) by omega]
        refine S_cvN wd T.us3 T.in105 rfl rfl (tu64 (by omega)) ?_
        refine S_nshl 1 wd (2 ^ wd) rfl rfl rfl rfl (Nat.one_mul _) (show wd ≤ 64 by omega) (t64b (by omega)) ?_
        refine S_subN (2 ^ wd - 1) rfl rfl (by omega) (by omega) ?_
        refine S_nand (a / 64) (2 ^ wd - 1) (a / 64 % 2 ^ wd) rfl rfl rfl rfl (and_mod _ _) (t64b (by omega)) (t64b (by omega)) ?_
        refine S_as rfl ?_
        refine S_nil (hK10 _ _ (V_keep [0, 2, 10, 11] (by simp only [proj, lk, reduceIte, Nat.reduceEqDiff]; rfl) ?_)); clear hK10
        refine V_reg T.mix (by kernel_rfl) ?_
        refine S_mv rfl ?_
        refine S_nc rfl ?_
        first | refine S_fa0 T.f70_4 rfl ?_ | refine S_fa T.f70_4 rfl ?_
        refine S_ldK T.ag56 rfl (fun K' hK' => ?_)
        simp (disch := omega) only [q0, q1, q2, q3, q4, q5, q6, q7, q8, q9, q10, q11, q12, alens, acode, aroot, asub, awt, aht, anum, apar, adep, aheap, oP_some, Nat.add_zero]
        refine hK' _ ?_; clear hK' K'
        refine S_mv rfl ?_
        refine S_nshr lk_ 4 st_ rfl rfl rfl rfl (by rw [hlkv]; omega) (by decide) ?_
        refine S_mv rfl ?_
        have hml := Nat.mod_lt (a / 64) hpwd
        refine S_addN (st_ + a / 64 % 2 ^ wd) rfl rfl (by omega) (by omega) ?_
        first | refine S_ixn T.el56 rfl rfl (by omega) ?_ | refine S_ix1 T.el56 rfl rfl (by omega) (by omega) ?_ | refine S_ix T.el56 rfl rfl (by omega) (by omega) ?_
        refine S_ldK T.ag3 rfl (fun K' hK' => ?_)
        simp (disch := omega) only [q0, q1, q2, q3, q4, q5, q6, q7, q8, q9, q10, q11, q12, alens, acode, aroot, asub, awt, aht, anum, apar, adep, aheap, oP_some, Nat.add_zero]
        refine hK' _ ?_; clear hK' K'
        refine S_as rfl ?_
        refine S_nilk [2, 9] (by simp only [proj, lk, reduceIte, Nat.reduceEqDiff]; rfl) ?_
        exact ⟨_, hfar, rfl, rfl⟩
      · skip
        refine V_skipk [2, 9] (by simp only [proj, lk, reduceIte, Nat.reduceEqDiff]; rfl) ?_
        exact ⟨_, by rcases Int.lt_trichotomy (u.root (a % 64)) 0 with q | q | q; (omega); (exact .inr ⟨k.tb.zero q, q⟩); (exact .inl (k.tb.short hL q)), rfl, rfl⟩
    rintro l h' ⟨cv, hcv, rfl, rfl⟩
    refine V_seq (fun K11 hK11 => ?_)
    refine V_sr T.mix (by kernel_rfl) (fun K12 hK12 => ?_)
    refine S_mv rfl ?_
    refine S_bin rfl rfl rfl ?_
    refine S_nil (hK12 _ _ (V_keep [2, 9, 61] (by simp only [proj, lk, reduceIte, Nat.reduceEqDiff]; rfl) ?_)); clear hK12
    refine V_condp rfl (fun c159 => ?_) (fun c159 => ?_)
    · skip
      refine V_sr T.mix (by kernel_rfl) (fun K13 hK13 => ?_)
      refine S_as rfl ?_
      refine S_as rfl ?_
      refine S_as rfl ?_
      refine S_nil (hK13 _ _ (V_keep [6, 7, 8] (by simp only [proj, lk, reduceIte, Nat.reduceEqDiff]; rfl) ?_)); clear hK13
      refine V_ret ?_
      refine hR _ _ (ret3 rfl rfl rfl rfl ?_)
      rcases hcv with ⟨s, s1, s2, s3⟩ | ⟨q, _⟩
      · exfalso; have h9 := s2.1; omega
      exact ⟨by rw [fndI_ok hk16 hak, fnd_no q]; rfl, rfl⟩
    · skip
      obtain ⟨s, s1, s2, hcl⟩ : ∃ s, s < u.n ∧ hd lf u.n s a ∧ cv = (s * 16 + lf s : Nat) := by rcases hcv with q | q; (exact q); (exact absurd q.2 c159)
      have hl10 := hL.le s s1
      refine V_skipk [2, 9] (by simp only [proj, lk, reduceIte, Nat.reduceEqDiff]; rfl) ?_
      refine hK11 _ _ ?_; clear hK11
      refine V_sr T.mix (by kernel_rfl) (fun K14 hK14 => ?_)
      refine S_mv rfl ?_
      rw [hcl]
      refine S_andm 15 4 16 rfl rfl rfl (by decide) (by decide) (by omega) (by omega) ?_
      rw [show ((s * 16 + lf s : Nat) : Int) % 16 = ((lf s : Nat) : Int) by omega]
      refine S_as rfl ?_
      refine S_nil (hK14 _ _ (V_keep [2, 9, 12] (by simp only [proj, lk, reduceIte, Nat.reduceEqDiff]; rfl) ?_)); clear hK14
      refine V_seq (fun K15 hK15 => ?_)
      refine V_sr T.mix (by kernel_rfl) (fun K16 hK16 => ?_)
      refine S_mv rfl ?_
      refine S_mv rfl ?_
      refine S_bin rfl rfl rfl ?_
      refine S_nil (hK16 _ _ (V_keep [9, 12, 66] (by simp only [proj, lk, reduceIte, Nat.reduceEqDiff]; rfl) ?_)); clear hK16
      refine V_condp rfl (fun c163 => ?_) (fun c163 => ?_)
      · skip
        refine V_sr T.mix (by kernel_rfl) (fun K17 hK17 => ?_)
        refine S_as rfl ?_
        refine S_as rfl ?_
        refine S_as rfl ?_
        refine S_nil (hK17 _ _ (V_keep [6, 7, 8] (by simp only [proj, lk, reduceIte, Nat.reduceEqDiff]; rfl) ?_)); clear hK17
        refine V_ret ?_
        refine hR _ _ (ret3 rfl rfl rfl rfl ?_)
        exact ⟨by rw [fndI_ok hk16 hak, fnd_far hL s1 s2 (by omega)]; rfl, rfl⟩
      · skip
        refine V_skipk [9, 12] (by simp only [proj, lk, reduceIte, Nat.reduceEqDiff]; rfl) ?_
        refine hK15 _ _ ?_; clear hK15
        refine V_sr T.mix (by kernel_rfl) (fun K18 hK18 => ?_)
        refine S_mv rfl ?_
        refine S_nshr (s * 16 + lf s) 4 s rfl rfl rfl rfl (by omega) (by decide) ?_
        refine S_mv rfl ?_
        refine S_as rfl ?_
        refine S_as rfl ?_
        refine S_as rfl ?_
        refine S_nil (hK18 _ _ (V_keep [6, 7, 8] (by simp only [proj, lk, reduceIte, Nat.reduceEqDiff]; rfl) ?_)); clear hK18
        refine V_ret ?_
        refine hR _ _ (ret3 rfl rfl rfl rfl ?_)
        exact ⟨by rw [fndI_ok hk16 hak, k.lw.fnd_some s1 s2 (by omega)]; rfl, rfl⟩
set_option maxHeartbeats 1600000 in
theorem mcode_spec (h : Heap) (M : Nat) (la cb : Option Addr) (lf : Nat → Nat) (N : Nat) (k : MK h M la cb lf N) (sym : Int) :
    FC Tryz.prog 139 (#[.pointer (some ⟨M, 0, none⟩), .int .i64 sym] : Array Value) h fun rv h' => rv = tri (codF lf N sym) ∧ h = h' := by
  obtain ⟨k0, k1⟩ := k.q
  have hn := k.n
  have alf : (0 : Nat) = 0 := rfl
  have acd : (0 : Nat) = 0 := rfl
  have hat0 : 0 < N → ∃ lb kb, la = some ⟨lb, 0, none⟩ ∧ cb = some ⟨kb, 0, none⟩ ∧ (∀ j, j < N → cellH h ⟨lb, j, none⟩ = some (.int .i64 (lf j : Int))) ∧ ∀ j, j < N → cellH h ⟨kb, j, none⟩ = some (.int .i64 (cd lf N j : Int)) := fun z => k.at z
  refine FC_of [(0, .pointer (some ⟨M, 0, none⟩)), (1, .int .i64 sym)] Tryz.func139 rfl Tryz.ntmps139 (by simp) rfl (fun R hR => ?_)
  refine V_sr T.mix (by kernel_rfl) (fun K1 hK1 => ?_)
  refine S_as rfl ?_
  refine S_as rfl ?_
  refine S_as rfl ?_
  refine S_nil (hK1 _ _ (V_keep [0, 1] (by simp only [proj, lk, reduceIte, Nat.reduceEqDiff]; rfl) ?_)); clear hK1
  refine V_seq (fun K2 hK2 => ?_)
  refine V_sr T.mix (by kernel_rfl) (fun K3 hK3 => ?_)
  refine S_mv rfl ?_
  refine S_bin rfl rfl rfl ?_
  refine S_mv rfl ?_
  refine S_dec (fun g250 => ?_) (fun g250 => ?_)
  · skip
    refine S_gf rfl ?_
    refine S_gf rfl ?_
    refine S_gf rfl ?_
    refine S_gf rfl ?_
    refine S_gf rfl ?_
    refine S_gf rfl ?_
    refine S_gf rfl ?_
    refine S_pt rfl rfl ?_
    refine S_mv rfl ?_
    refine S_gf rfl ?_
    refine S_gf rfl ?_
    refine S_gf rfl ?_
    refine S_gf rfl ?_
    refine S_gf rfl ?_
    refine S_gf rfl ?_
    refine S_gf rfl ?_
    refine S_gf rfl ?_
    refine S_pt rfl rfl ?_
    refine S_nil (hK3 _ _ (V_keep [0, 1, 27] (by simp only [proj, lk, reduceIte, Nat.reduceEqDiff]; rfl) ?_)); clear hK3
    refine V_condt rfl ?_
    refine V_sr T.mix (by kernel_rfl) (fun K4 hK4 => ?_)
    refine S_as rfl ?_
    refine S_as rfl ?_
    refine S_as rfl ?_
    refine S_nil (hK4 _ _ (V_keep [4, 5, 6] (by simp only [proj, lk, reduceIte, Nat.reduceEqDiff]; rfl) ?_)); clear hK4
    refine V_ret ?_
    refine hR _ _ (ret3 rfl rfl rfl rfl ?_)
    exact ⟨by rw [codF_no (by omega)]; rfl, rfl⟩
  · skip
    refine S_gt rfl ?_
    refine S_mv rfl ?_
    refine S_gt rfl ?_
    refine S_mv rfl ?_
    refine S_gt rfl ?_
    refine S_nc rfl ?_
    refine S_gt rfl ?_
    first | refine S_fa0 T.f110_0 rfl ?_ | refine S_fa T.f110_0 rfl ?_
    refine S_gt rfl ?_
    refine S_ldK T.ag56 rfl (fun K' hK' => ?_)
    simp (disch := omega) only [k0, k1, alf, acd, oP_some, Nat.add_zero]
    refine hK' _ ?_; clear hK' K'
    refine S_gt rfl ?_
    refine S_lenl T.el56 rfl ?_
    refine S_gt rfl ?_
    refine S_bin rfl rfl rfl ?_
    refine S_pf rfl rfl ?_
    refine S_mv rfl ?_
    refine S_dec (fun g250a => ?_) (fun g250a => ?_)
    · skip
      refine S_gf rfl ?_
      refine S_gf rfl ?_
      refine S_gf rfl ?_
      refine S_gf rfl ?_
      refine S_gf rfl ?_
      refine S_gf rfl ?_
      refine S_gf rfl ?_
      refine S_gf rfl ?_
      refine S_pt rfl rfl ?_
      refine S_nil (hK3 _ _ (V_keep [0, 1, 27] (by simp only [proj, lk, reduceIte, Nat.reduceEqDiff]; rfl) ?_)); clear hK3
      refine V_condt rfl ?_
      refine V_sr T.mix (by kernel_rfl) (fun K5 hK5 => ?_)
      refine S_as rfl ?_
      refine S_as rfl ?_
      refine S_as rfl ?_
      refine S_nil (hK5 _ _ (V_keep [4, 5, 6] (by simp only [proj, lk, reduceIte, Nat.reduceEqDiff]; rfl) ?_)); clear hK5
      refine V_ret ?_
      refine hR _ _ (ret3 rfl rfl rfl rfl ?_)
      exact ⟨by rw [codF_no (by omega)]; rfl, rfl⟩
    · skip
      obtain ⟨lb, kb, e1, e2, alf, acd⟩ := hat0 (by omega)
      subst e1 e2
      obtain ⟨s, hs⟩ : ∃ s : Nat, sym = s := ⟨sym.toNat, by omega⟩
      subst hs
      refine S_gt rfl ?_
      refine S_mv rfl ?_
      refine S_gt rfl ?_
      refine S_nc rfl ?_
      refine S_gt rfl ?_
      first | refine S_fa0 T.f110_0 rfl ?_ | refine S_fa T.f110_0 rfl ?_
      refine S_gt rfl ?_
      refine S_ldK T.ag56 rfl (fun K' hK' => ?_)
      simp (disch := omega) only [k0, k1, alf, acd, oP_some, Nat.add_zero]
      refine hK' _ ?_; clear hK' K'
      refine S_gt rfl ?_
      refine S_mv rfl ?_
      refine S_gt rfl ?_
      first | refine S_ixn T.el56 rfl rfl (by omega) ?_ | refine S_ix1 T.el56 rfl rfl (by omega) (by omega) ?_ | refine S_ix T.el56 rfl rfl (by omega) (by omega) ?_
      refine S_gt rfl ?_
      refine S_ldK T.ag3 rfl (fun K' hK' => ?_)
      simp (disch := omega) only [k0, k1, alf, acd, oP_some, Nat.add_zero]
      refine hK' _ ?_; clear hK' K'
      refine S_gt rfl ?_
      refine S_bin rfl rfl rfl ?_
      refine S_pf rfl rfl ?_
      refine S_nil (hK3 _ _ (V_keep [0, 1, 27] (by simp only [proj, lk, reduceIte, Nat.reduceEqDiff]; rfl) ?_)); clear hK3
      refine V_condp rfl (fun c250 => ?_) (fun c250 => ?_)
      · skip
        refine V_sr T.mix (by kernel_rfl) (fun K6 hK6 => ?_)
        refine S_as rfl ?_
        refine S_as rfl ?_
        refine S_as rfl ?_
        refine S_nil (hK6 _ _ (V_keep [4, 5, 6] (by simp only [proj, lk, reduceIte, Nat.reduceEqDiff]; rfl) ?_)); clear hK6
        refine V_ret ?_
        refine hR _ _ (ret3 rfl rfl rfl rfl ?_)
        exact ⟨by rw [codF_no (by rw [Int.toNat_natCast]; omega)]; rfl, rfl⟩
      · skip
        refine V_skipk [0, 1] (by simp only [proj, lk, reduceIte, Nat.reduceEqDiff]; rfl) ?_
        refine hK2 _ _ ?_; clear hK2
        refine V_sr T.mix (by kernel_rfl) (fun K7 hK7 => ?_)
        refine S_mv rfl ?_
        refine S_nc rfl ?_
        first | refine S_fa0 T.f110_1 rfl ?_ | refine S_fa T.f110_1 rfl ?_
        refine S_ldK T.ag56 rfl (fun K' hK' => ?_)
        simp (disch := omega) only [k0, k1, alf, acd, oP_some, Nat.add_zero]
        refine hK' _ ?_; clear hK' K'
        refine S_mv rfl ?_
        first | refine S_ixn T.el56 rfl rfl (by omega) ?_ | refine S_ix1 T.el56 rfl rfl (by omega) (by omega) ?_ | refine S_ix T.el56 rfl rfl (by omega) (by omega) ?_
        refine S_ldK T.ag3 rfl (fun K' hK' => ?_)
        simp (disch := omega) only [k0, k1, alf, acd, oP_some, Nat.add_zero]
        refine hK' _ ?_; clear hK' K'
        refine S_mv rfl ?_
        refine S_nc rfl ?_
        first | refine S_fa0 T.f110_0 rfl ?_ | refine S_fa T.f110_0 rfl ?_
        refine S_ldK T.ag56 rfl (fun K' hK' => ?_)
        simp (disch := omega) only [k0, k1, alf, acd, oP_some, Nat.add_zero]
        refine hK' _ ?_; clear hK' K'
        refine S_mv rfl ?_
        first | refine S_ixn T.el56 rfl rfl (by omega) ?_ | refine S_ix1 T.el56 rfl rfl (by omega) (by omega) ?_ | refine S_ix T.el56 rfl rfl (by omega) (by omega) ?_
        refine S_ldK T.ag3 rfl (fun K' hK' => ?_)
        simp (disch := omega) only [k0, k1, alf, acd, oP_some, Nat.add_zero]
        refine hK' _ ?_; clear hK' K'
        refine S_as rfl ?_
        refine S_as rfl ?_
        refine S_as rfl ?_
        refine S_nil (hK7 _ _ (V_keep [4, 5, 6] (by simp only [proj, lk, reduceIte, Nat.reduceEqDiff]; rfl) ?_)); clear hK7
        refine V_ret ?_
        refine hR _ _ (ret3 rfl rfl rfl rfl ?_)
        exact ⟨by rw [codF_ok (by rw [Int.toNat_natCast]; omega), Int.toNat_natCast]; rfl, rfl⟩
set_option maxHeartbeats 400000 in
theorem turn_spec (h : Heap) (v n : Nat) (hn : n ≤ 10) (hv : v ≤ 100000) :
    FC Tryz.prog 138 (#[.int .i64 (v : Int), .int .i64 (n : Int)] : Array Value) h fun q h' => q = .int .i64 ((Huf.rv v n : Nat) : Int) ∧ h = h' := by
  refine FC_of [(0, .int .i64 (v : Int)), (1, .int .i64 (n : Int))] Tryz.func138 rfl Tryz.ntmps138 (by simp) rfl (fun R hR => ?_)
  refine V_sr T.mix (by kernel_rfl) (fun K1 hK1 => ?_)
  refine S_as rfl ?_
  refine S_nil (hK1 _ _ (V_keep [0, 1] (by simp only [proj, lk, reduceIte, Nat.reduceEqDiff]; rfl) ?_)); clear hK1
  refine V_sr T.mix (by kernel_rfl) (fun K2 hK2 => ?_)
  refine S_as rfl ?_
  refine S_nil (hK2 _ _ (V_keep [0, 1, 5] (by simp only [proj, lk, reduceIte, Nat.reduceEqDiff]; rfl) ?_)); clear hK2
  refine V_seq (fun K3 hK3 => ?_)
  refine V_sr T.mix (by kernel_rfl) (fun K4 hK4 => ?_)
  refine S_as rfl ?_
  refine S_nil (hK4 _ _ (V_keep [0, 1, 5, 6] (by simp only [proj, lk, reduceIte, Nat.reduceEqDiff]; rfl) ?_)); clear hK4
  refine V_block ?_
  refine V_loop (fun m l h' => ∃ (t r_ : Nat), (t ≤ n) ∧ (r_ = Huf.rv v t) ∧ m = n - t ∧ l = [(0, .int .i64 (v : Int)), (1, .int .i64 (n : Int)), (5, .int .i64 (r_ : Int)), (6, .int .i64 (t : Int))] ∧ h = h') _ ⟨0, 0, Nat.zero_le _, rfl, rfl, rfl, rfl⟩ ?_
  rintro m l h' ⟨t, r_, ht, hr, rfl, rfl, rfl⟩ K5 hK5
  have h9 := rv_bd v (show t ≤ 10 by omega)
  have h8 := div_le' v t
  refine V_seq (fun K6 hK6 => ?_)
  refine V_sr T.mix (by kernel_rfl) (fun K7 hK7 => ?_)
  refine S_mv rfl ?_
  refine S_mv rfl ?_
  refine S_bin rfl rfl rfl ?_
  refine S_nil (hK7 _ _ (V_keep [0, 1, 5, 6, 9] (by simp only [proj, lk, reduceIte, Nat.reduceEqDiff]; rfl) ?_)); clear hK7
  refine V_condp rfl (fun c221 => ?_) (fun c221 => ?_)
  · skip
    refine V_skipk [0, 1, 5, 6] (by simp only [proj, lk, reduceIte, Nat.reduceEqDiff]; rfl) ?_
    refine hK6 _ _ ?_; clear hK6
    refine V_seq (fun K8 hK8 => ?_)
    refine V_block ?_
    refine V_reg T.mix (by kernel_rfl) ?_
    refine S_mv rfl ?_
    refine S_nshl r_ 1 (r_ * 2) rfl rfl rfl rfl (by rw [Nat.pow_one]) (by decide) (t64b (by omega)) ?_
    refine S_mv rfl ?_
    refine S_mv rfl ?_
    refine S_cvN t T.us3 T.in105 rfl rfl (tu64 (by omega)) ?_
    refine S_nshr v t (v / 2 ^ t) rfl rfl rfl rfl rfl (show t ≤ 64 by omega) ?_
    refine S_nand (v / 2 ^ t) 1 (v / 2 ^ t % 2) rfl rfl rfl rfl (Nat.and_one_is_mod _) (t64b (by omega)) (by decide) ?_
    refine S_nor (r_ * 2) (v / 2 ^ t % 2) (2 * r_ + v / 2 ^ t % 2) rfl rfl rfl rfl (or2 _ _) (t64b (by omega)) (t64b (by omega)) ?_
    refine S_as rfl ?_
    refine S_nilk [0, 1, 5, 6] (by simp only [proj, lk, reduceIte, Nat.reduceEqDiff]; rfl) ?_
    refine hK8 _ _ ?_; clear hK8
    refine V_reg T.mix (by kernel_rfl) ?_
    refine S_mv rfl ?_
    first | refine S_add rfl rfl (by omega) (by omega) ?_ | refine S_bin rfl rfl rfl ?_
    refine S_as rfl ?_
    refine S_nilk [0, 1, 5, 6] (by simp only [proj, lk, reduceIte, Nat.reduceEqDiff]; rfl) ?_
    exact hK5 _ _ ⟨_, by omega, t + 1, _, by omega, by rw [hr]; rfl, rfl, rfl, rfl⟩
  · skip
    refine V_exitk [5] rfl (by simp only [proj, lk, reduceIte, Nat.reduceEqDiff]; rfl) ?_
    refine hK3 _ _ ?_; clear hK3
    refine V_sr T.mix (by kernel_rfl) (fun K9 hK9 => ?_)
    refine S_mv rfl ?_
    refine S_as rfl ?_
    refine S_nil (hK9 _ _ (V_keep [4] (by simp only [proj, lk, reduceIte, Nat.reduceEqDiff]; rfl) ?_)); clear hK9
    refine V_ret ?_
    refine hR _ _ (ret1 rfl rfl ?_)
    exact ⟨by rw [hr, show n = t by omega], rfl⟩
set_option maxHeartbeats 3200000 in
theorem mfind_spec (h : Heap) (M : Nat) (la cb : Option Addr) (lf : Nat → Nat) (N : Nat) (k : MK h M la cb lf N) (x hv : Int) :
    FC Tryz.prog 176 (#[.pointer (some ⟨M, 0, none⟩), .int .i64 x, .int .i64 hv] : Array Value) h fun rv h' => rv = tri (fndI lf N x hv) ∧ h = h' := by
  obtain ⟨k0, k1⟩ := k.q
  have hn := k.n
  have hL := k.lw.ln
  have hat0 : 0 < N → ∃ lb kb, la = some ⟨lb, 0, none⟩ ∧ cb = some ⟨kb, 0, none⟩ ∧ (∀ j, j < N → cellH h ⟨lb, j, none⟩ = some (.int .i64 (lf j : Int))) ∧ ∀ j, j < N → cellH h ⟨kb, j, none⟩ = some (.int .i64 (cd lf N j : Int)) := fun z => k.at z
  refine FC_of [(0, .pointer (some ⟨M, 0, none⟩)), (1, .int .i64 x), (2, .int .i64 hv)] Tryz.func176 rfl Tryz.ntmps176 (by simp) rfl (fun R hR => ?_)
  refine V_sr T.mix (by kernel_rfl) (fun K1 hK1 => ?_)
  refine S_as rfl ?_
  refine S_as rfl ?_
  refine S_as rfl ?_
  refine S_nil (hK1 _ _ (V_keep [0, 1, 2] (by simp only [proj, lk, reduceIte, Nat.reduceEqDiff]; rfl) ?_)); clear hK1
  refine V_seq (fun K2 hK2 => ?_)
  refine V_sr T.mix (by kernel_rfl) (fun K3 hK3 => ?_)
  refine S_cut (K' := fun l h' => ∃ b : Bool, (b = true ↔ (hv < 0 ∨ 16 < hv ∨ x < 0 ∨ 2 ^ hv.toNat ≤ x.toNat)) ∧ l = [(0, .pointer (some ⟨M, 0, none⟩)), (1, .int .i64 x), (2, .int .i64 hv), (28, .bool b)] ∧ h = h') ?_ ?_
  · skip
    refine S_mv rfl ?_
    refine S_bin rfl rfl rfl ?_
    refine S_mv rfl ?_
    refine S_dec (fun g257 => ?_) (fun g257 => ?_)
    · skip
      refine S_gf rfl ?_
      refine S_gf rfl ?_
      refine S_pt rfl rfl ?_
      refine S_mv rfl ?_
      refine S_gf rfl ?_
      refine S_gf rfl ?_
      refine S_pt rfl rfl ?_
      refine S_mv rfl ?_
      refine S_gf rfl ?_
      refine S_gf rfl ?_
      refine S_gf rfl ?_
      refine S_gf rfl ?_
      refine S_gf rfl ?_
      refine S_pt rfl rfl ?_
      exact S_nilk [0, 1, 2, 28] (by simp only [proj, lk, reduceIte, Nat.reduceEqDiff]; rfl) ⟨_, (by first | (simp only [decide_eq_true_eq]; omega) | (simp; omega)), rfl, rfl⟩
    · skip
      refine S_gt rfl ?_
      refine S_mv rfl ?_
      refine S_gt rfl ?_
      refine S_bin rfl rfl rfl ?_
      refine S_pf rfl rfl ?_
      refine S_mv rfl ?_
      refine S_dec (fun g257a => ?_) (fun g257a => ?_)
      · skip
        refine S_gf rfl ?_
        refine S_gf rfl ?_
        refine S_pt rfl rfl ?_
        refine S_mv rfl ?_
        refine S_gf rfl ?_
        refine S_gf rfl ?_
        refine S_gf rfl ?_
        refine S_gf rfl ?_
        refine S_gf rfl ?_
        refine S_pt rfl rfl ?_
        exact S_nilk [0, 1, 2, 28] (by simp only [proj, lk, reduceIte, Nat.reduceEqDiff]; rfl) ⟨_, (by first | (simp only [decide_eq_true_eq]; omega) | (simp; omega)), rfl, rfl⟩
      · skip
        refine S_gt rfl ?_
        refine S_mv rfl ?_
        refine S_gt rfl ?_
        refine S_bin rfl rfl rfl ?_
        refine S_pf rfl rfl ?_
        refine S_mv rfl ?_
        refine S_dec (fun g257b => ?_) (fun g257b => ?_)
        · skip
          refine S_gf rfl ?_
          refine S_gf rfl ?_
          refine S_gf rfl ?_
          refine S_gf rfl ?_
          refine S_gf rfl ?_
          refine S_pt rfl rfl ?_
          exact S_nilk [0, 1, 2, 28] (by simp only [proj, lk, reduceIte, Nat.reduceEqDiff]; rfl) ⟨_, (by first | (simp only [decide_eq_true_eq]; omega) | (simp; omega)), rfl, rfl⟩
        · skip
          refine S_gt rfl ?_
          refine S_mv rfl ?_
          refine S_gt rfl ?_
          refine S_mv rfl ?_
          refine S_gt rfl ?_
          refine S_cvN hv.toNat T.us3 T.in105 rfl (by omega) (tu64 (by omega)) ?_
          refine S_gt rfl ?_
          obtain ⟨dv, hdv⟩ : ∃ d, d = x.toNat / 2 ^ hv.toNat := ⟨_, rfl⟩
          have hdz : dv = 0 ↔ x.toNat < 2 ^ hv.toNat := by rw [hdv]; exact Nat.div_eq_zero_iff_lt (pp2 _)
          refine S_nshr x.toNat hv.toNat dv rfl rfl (by omega) rfl hdv.symm (show hv.toNat ≤ 64 by omega) ?_
          refine S_gt rfl ?_
          refine S_bin rfl rfl rfl ?_
          refine S_pf rfl rfl ?_
          exact S_nilk [0, 1, 2, 28] (by simp only [proj, lk, reduceIte, Nat.reduceEqDiff]; rfl) ⟨_, (by first | (simp only [decide_eq_true_eq]; omega) | (simp; omega)), rfl, rfl⟩
  rintro l h' ⟨b, hb257, rfl, rfl⟩
  refine hK3 _ _ ?_; clear hK3
  refine V_condb rfl (fun c257 => ?_) (fun c257 => ?_)
  · replace c257 := hb257.1 c257
    refine V_sr T.mix (by kernel_rfl) (fun K5 hK5 => ?_)
    refine S_as rfl ?_
    refine S_as rfl ?_
    refine S_as rfl ?_
    refine S_nil (hK5 _ _ (V_keep [6, 7, 8] (by simp only [proj, lk, reduceIte, Nat.reduceEqDiff]; rfl) ?_)); clear hK5
    refine V_ret ?_
    refine hR _ _ (ret3 rfl rfl rfl rfl ?_)
    exact ⟨by rw [fndI_no c257]; rfl, rfl⟩
  · replace c257 : ¬ _ := fun hp => Bool.false_ne_true (c257.symm.trans (hb257.2 hp))
    obtain ⟨a, ha⟩ : ∃ a : Nat, x = a := ⟨x.toNat, by omega⟩
    obtain ⟨b2, hb2⟩ : ∃ b2 : Nat, hv = b2 := ⟨hv.toNat, by omega⟩
    subst ha hb2
    rw [Int.toNat_natCast, Int.toNat_natCast] at c257
    have hk16 : b2 ≤ 16 := by omega
    have hak : a < 2 ^ b2 := by omega
    have ha16 := p16 hk16
    refine V_skipk [0, 1, 2] (by simp only [proj, lk, reduceIte, Nat.reduceEqDiff]; rfl) ?_
    refine hK2 _ _ ?_; clear hK2
    refine V_sr T.mix (by kernel_rfl) (fun K6 hK6 => ?_)
    refine S_as rfl ?_
    refine S_nil (hK6 _ _ (V_keep [0, 1, 2, 9] (by simp only [proj, lk, reduceIte, Nat.reduceEqDiff]; rfl) ?_)); clear hK6
    refine V_seq (fun K7 hK7 => ?_)
    refine V_sr T.mix (by kernel_rfl) (fun K8 hK8 => ?_)
    refine S_as rfl ?_
    refine S_nil (hK8 _ _ (V_keep [0, 1, 2, 9, 10] (by simp only [proj, lk, reduceIte, Nat.reduceEqDiff]; rfl) ?_)); clear hK8
    refine V_block ?_
    refine V_loop (fun m l h' => ∃ (s : Nat) (op : Bool), (s ≤ N) ∧ (∀ t, t < s → lf t ≤ b2 → ¬ hd lf N t a) ∧ (op = true ↔ ∃ t, t < s ∧ b2 < lf t ∧ cd lf N t % 2 ^ b2 = a) ∧ m = N - s ∧ l = [(0, .pointer (some ⟨M, 0, none⟩)), (1, .int .i64 (a : Int)), (2, .int .i64 (b2 : Int)), (9, .bool op), (10, .int .i64 (s : Int))] ∧ h = h') _ ⟨0, false, Nat.zero_le _, fun t ht => by omega, by simp, rfl, rfl, rfl⟩ ?_
    rintro m l h' ⟨s, op, hs, hno, hop, rfl, rfl, rfl⟩ K9 hK9
    refine V_seq (fun K10 hK10 => ?_)
    refine V_sr T.mix (by kernel_rfl) (fun K11 hK11 => ?_)
    refine S_mv rfl ?_
    refine S_mv rfl ?_
    refine S_nc rfl ?_
    first | refine S_fa0 T.f110_0 rfl ?_ | refine S_fa T.f110_0 rfl ?_
    refine S_ldK T.ag56 rfl (fun K' hK' => ?_)
    simp (disch := omega) only [k0, k1, oP_some, Nat.add_zero]
    refine hK' _ ?_; clear hK' K'
    refine S_lenl T.el56 rfl ?_
    refine S_bin rfl rfl rfl ?_
    refine S_nil (hK11 _ _ (V_keep [0, 1, 2, 9, 10, 35] (by simp only [proj, lk, reduceIte, Nat.reduceEqDiff]; rfl) ?_)); clear hK11
    refine V_condp rfl (fun c261 => ?_) (fun c261 => ?_)
    · skip
      obtain ⟨lb, kb, e1, e2, alf, acd⟩ := hat0 (by omega)
      subst e1 e2
      have hl10 := hL.le s (by omega)
      have hc10 := cd10 hL (show s < N by omega)
      refine V_skipk [0, 1, 2, 9, 10] (by simp only [proj, lk, reduceIte, Nat.reduceEqDiff]; rfl) ?_
      refine hK10 _ _ ?_; clear hK10
      refine V_seq (fun K12 hK12 => ?_)
      refine V_block ?_
      refine V_sr T.mix (by kernel_rfl) (fun K13 hK13 => ?_)
      refine S_mv rfl ?_
      refine S_nc rfl ?_
      first | refine S_fa0 T.f110_0 rfl ?_ | refine S_fa T.f110_0 rfl ?_
      refine S_ldK T.ag56 rfl (fun K' hK' => ?_)
      simp (disch := omega) only [k0, k1, alf, acd, oP_some, Nat.add_zero]
      refine hK' _ ?_; clear hK' K'
      refine S_mv rfl ?_
      first | refine S_ixn T.el56 rfl rfl (by omega) ?_ | refine S_ix1 T.el56 rfl rfl (by omega) (by omega) ?_ | refine S_ix T.el56 rfl rfl (by omega) (by omega) ?_
      refine S_ldK T.ag3 rfl (fun K' hK' => ?_)
      simp (disch := omega) only [k0, k1, alf, acd, oP_some, Nat.add_zero]
      refine hK' _ ?_; clear hK' K'
      refine S_as rfl ?_
      refine S_nil (hK13 _ _ (V_keep [0, 1, 2, 9, 10, 11] (by simp only [proj, lk, reduceIte, Nat.reduceEqDiff]; rfl) ?_)); clear hK13
      refine V_seq (fun K14 hK14 => ?_)
      refine V_sr T.mix (by kernel_rfl) (fun K15 hK15 => ?_)
      refine S_cut (K' := fun l h' => ∃ b : Bool, (b = true ↔ (0 < lf s ∧ lf s ≤ b2 ∧ a % 2 ^ lf s = cd lf N s)) ∧ l = [(0, .pointer (some ⟨M, 0, none⟩)), (1, .int .i64 (a : Int)), (2, .int .i64 (b2 : Int)), (9, .bool op), (10, .int .i64 (s : Int)), (11, .int .i64 (lf s : Int)), (67, .bool b)] ∧ h = h') ?_ ?_
      · skip
        refine S_mv rfl ?_
        refine S_bin rfl rfl rfl ?_
        refine S_mv rfl ?_
        refine S_dec (fun g263 => ?_) (fun g263 => ?_)
        · skip
          refine S_gt rfl ?_
          refine S_mv rfl ?_
          refine S_gt rfl ?_
          refine S_mv rfl ?_
          refine S_gt rfl ?_
          refine S_bin rfl rfl rfl ?_
          refine S_pt rfl rfl ?_
          refine S_mv rfl ?_
          refine S_dec (fun g263a => ?_) (fun g263a => ?_)
          · skip
            refine S_gt rfl ?_
            refine S_mv rfl ?_
            refine S_gt rfl ?_
            refine S_mv rfl ?_
            refine S_gt rfl ?_
            refine S_cvN (lf s) T.us3 T.in105 rfl rfl (tu64 (by omega)) ?_
            refine S_gt rfl ?_
            have hpe_ := p16 (show lf s ≤ 16 by omega)
            have hpz_ := pp2 (lf s)
            refine S_nshl 1 (lf s) (2 ^ (lf s)) rfl rfl rfl rfl (Nat.one_mul _) (show lf s ≤ 64 by omega) (t64b (by omega)) ?_
            refine S_gt rfl ?_
            refine S_subN (2 ^ lf s - 1) rfl rfl (by omega) (by omega) ?_
            refine S_gt rfl ?_
            refine S_nand a (2 ^ lf s - 1) (a % 2 ^ lf s) rfl rfl rfl rfl (and_mod _ _) (t64b (by omega)) (t64b (by omega)) ?_
            refine S_gt rfl ?_
            refine S_mv rfl ?_
            refine S_gt rfl ?_
            refine S_nc rfl ?_
            refine S_gt rfl ?_
            first | refine S_fa0 T.f110_1 rfl ?_ | refine S_fa T.f110_1 rfl ?_
            refine S_gt rfl ?_
            refine S_ldK T.ag56 rfl (fun K' hK' => ?_)
            simp (disch := omega) only [k0, k1, alf, acd, oP_some, Nat.add_zero]
            refine hK' _ ?_; clear hK' K'
            refine S_gt rfl ?_
            refine S_mv rfl ?_
            refine S_gt rfl ?_
            first | refine S_ixn T.el56 rfl rfl (by omega) ?_ | refine S_ix1 T.el56 rfl rfl (by omega) (by omega) ?_ | refine S_ix T.el56 rfl rfl (by omega) (by omega) ?_
            refine S_gt rfl ?_
            refine S_ldK T.ag3 rfl (fun K' hK' => ?_)
            simp (disch := omega) only [k0, k1, alf, acd, oP_some, Nat.add_zero]
            refine hK' _ ?_; clear hK' K'
            refine S_gt rfl ?_
            refine S_bin rfl rfl rfl ?_
            refine S_pt rfl rfl ?_
            exact S_nilk [0, 1, 2, 9, 10, 11, 67] (by simp only [proj, lk, reduceIte, Nat.reduceEqDiff]; rfl) ⟨_, (by first | (simp only [decide_eq_true_eq]; omega) | (simp; omega)), rfl, rfl⟩
          · skip
            refine S_gf rfl ?_
            refine S_gf rfl ?_
            refine S_gf rfl ?_
            refine S_gf rfl ?_
            refine S_gf rfl ?_
            refine S_gf rfl ?_
            refine S_gf rfl ?_
            refine S_gf rfl ?_
            refine S_gf rfl ?_
            refine S_gf rfl ?_
            refine S_gf rfl ?_
            refine S_gf rfl ?_
            refine S_gf rfl ?_
            refine S_gf rfl ?_
            refine S_pf rfl rfl ?_
            exact S_nilk [0, 1, 2, 9, 10, 11, 67] (by simp only [proj, lk, reduceIte, Nat.reduceEqDiff]; rfl) ⟨_, (by first | (simp only [decide_eq_true_eq]; omega) | (simp; omega)), rfl, rfl⟩
        · skip
          refine S_gf rfl ?_
          refine S_gf rfl ?_
          refine S_gf rfl ?_
          refine S_pf rfl rfl ?_
          refine S_mv rfl ?_
          refine S_gf rfl ?_
          refine S_gf rfl ?_
          refine S_gf rfl ?_
          refine S_gf rfl ?_
          refine S_gf rfl ?_
          refine S_gf rfl ?_
          refine S_gf rfl ?_
          refine S_gf rfl ?_
          refine S_gf rfl ?_
          refine S_gf rfl ?_
          refine S_gf rfl ?_
          refine S_gf rfl ?_
          refine S_gf rfl ?_
          refine S_gf rfl ?_
          refine S_pf rfl rfl ?_
          exact S_nilk [0, 1, 2, 9, 10, 11, 67] (by simp only [proj, lk, reduceIte, Nat.reduceEqDiff]; rfl) ⟨_, (by first | (simp only [decide_eq_true_eq]; omega) | (simp; omega)), rfl, rfl⟩
      rintro l h' ⟨b, hb263, rfl, rfl⟩
      refine hK15 _ _ ?_; clear hK15
      refine V_condb rfl (fun c263 => ?_) (fun c263 => ?_)
      · replace c263 := hb263.1 c263
        refine V_sr T.mix (by kernel_rfl) (fun K17 hK17 => ?_)
        refine S_mv rfl ?_
        refine S_mv rfl ?_
        refine S_as rfl ?_
        refine S_as rfl ?_
        refine S_as rfl ?_
        refine S_nil (hK17 _ _ (V_keep [6, 7, 8] (by simp only [proj, lk, reduceIte, Nat.reduceEqDiff]; rfl) ?_)); clear hK17
        refine V_ret ?_
        refine hR _ _ (ret3 rfl rfl rfl rfl ?_)
        exact ⟨by rw [fndI_ok hk16 hak, k.lw.fnd_some (show s < N by omega) ⟨c263.1, c263.2.2⟩ c263.2.1]; rfl, rfl⟩
      · replace c263 : ¬ _ := fun hp => Bool.false_ne_true (c263.symm.trans (hb263.2 hp))
        have hno1 : ∀ t, t < s + 1 → lf t ≤ b2 → ¬ hd lf N t a := fun t ht h1 h2 => by by_cases e : t = s; (subst e; exact c263 ⟨h2.1, h1, h2.2⟩); (exact hno t (by omega) h1 h2)
        refine V_skipk [0, 1, 2, 9, 10, 11] (by simp only [proj, lk, reduceIte, Nat.reduceEqDiff]; rfl) ?_
        refine hK14 _ _ ?_; clear hK14
        refine V_sr T.mix (by kernel_rfl) (fun K18 hK18 => ?_)
        refine S_cut (K' := fun l h' => ∃ b : Bool, (b = true ↔ (b2 < lf s ∧ cd lf N s % 2 ^ b2 = a)) ∧ l = [(0, .pointer (some ⟨M, 0, none⟩)), (1, .int .i64 (a : Int)), (2, .int .i64 (b2 : Int)), (9, .bool op), (10, .int .i64 (s : Int)), (88, .bool b)] ∧ h = h') ?_ ?_
        · skip
          refine S_mv rfl ?_
          refine S_mv rfl ?_
          refine S_bin rfl rfl rfl ?_
          refine S_mv rfl ?_
          refine S_dec (fun g266 => ?_) (fun g266 => ?_)
          · skip
            refine S_gt rfl ?_
            refine S_mv rfl ?_
            refine S_gt rfl ?_
            refine S_nc rfl ?_
            refine S_gt rfl ?_
            first | refine S_fa0 T.f110_1 rfl ?_ | refine S_fa T.f110_1 rfl ?_
            refine S_gt rfl ?_
            refine S_ldK T.ag56 rfl (fun K' hK' => ?_)
            simp (disch := omega) only [k0, k1, alf, acd, oP_some, Nat.add_zero]
            refine hK' _ ?_; clear hK' K'
            refine S_gt rfl ?_
            refine S_mv rfl ?_
            refine S_gt rfl ?_
            first | refine S_ixn T.el56 rfl rfl (by omega) ?_ | refine S_ix1 T.el56 rfl rfl (by omega) (by omega) ?_ | refine S_ix T.el56 rfl rfl (by omega) (by omega) ?_
            refine S_gt rfl ?_
            refine S_ldK T.ag3 rfl (fun K' hK' => ?_)
            simp (disch := omega) only [k0, k1, alf, acd, oP_some, Nat.add_zero]
            refine hK' _ ?_; clear hK' K'
            refine S_gt rfl ?_
            refine S_mv rfl ?_
            refine S_gt rfl ?_
            refine S_cvN (b2) T.us3 T.in105 rfl rfl (tu64 (by omega)) ?_
            refine S_gt rfl ?_
            have hpe_ := p16 (show b2 ≤ 16 by omega)
            have hpz_ := pp2 (b2)
            refine S_nshl 1 (b2) (2 ^ (b2)) rfl rfl rfl rfl (Nat.one_mul _) (show b2 ≤ 64 by omega) (t64b (by omega)) ?_
            refine S_gt rfl ?_
            refine S_subN (2 ^ b2 - 1) rfl rfl (by omega) (by omega) ?_
            refine S_gt rfl ?_
            refine S_nand (cd lf N s) (2 ^ b2 - 1) (cd lf N s % 2 ^ b2) rfl rfl rfl rfl (and_mod _ _) (t64b (by omega)) (t64b (by omega)) ?_
            refine S_gt rfl ?_
            refine S_mv rfl ?_
            refine S_gt rfl ?_
            refine S_bin rfl rfl rfl ?_
            refine S_pt rfl rfl ?_
            exact S_nilk [0, 1, 2, 9, 10, 88] (by simp only [proj, lk, reduceIte, Nat.reduceEqDiff]; rfl) ⟨_, (by first | (simp only [decide_eq_true_eq]; omega) | (simp; omega)), rfl, rfl⟩
          · skip
            refine S_gf rfl ?_
            refine S_gf rfl ?_
            refine S_gf rfl ?_
            refine S_gf rfl ?_
            refine S_gf rfl ?_
            refine S_gf rfl ?_
            refine S_gf rfl ?_
            refine S_gf rfl ?_
            refine S_gf rfl ?_
            refine S_gf rfl ?_
            refine S_gf rfl ?_
            refine S_gf rfl ?_
            refine S_gf rfl ?_
            refine S_gf rfl ?_
            refine S_pf rfl rfl ?_
            exact S_nilk [0, 1, 2, 9, 10, 88] (by simp only [proj, lk, reduceIte, Nat.reduceEqDiff]; rfl) ⟨_, (by first | (simp only [decide_eq_true_eq]; omega) | (simp; omega)), rfl, rfl⟩
        rintro l h' ⟨b, hb266, rfl, rfl⟩
        refine hK18 _ _ ?_; clear hK18
        refine V_condb rfl (fun c266 => ?_) (fun c266 => ?_)
        · replace c266 := hb266.1 c266
          refine V_reg T.mix (by kernel_rfl) ?_
          refine S_as rfl ?_
          refine S_nilk [0, 1, 2, 9, 10] (by simp only [proj, lk, reduceIte, Nat.reduceEqDiff]; rfl) ?_
          refine hK12 _ _ ?_; clear hK12
          refine V_reg T.mix (by kernel_rfl) ?_
          refine S_mv rfl ?_
          first | refine S_add rfl rfl (by omega) (by omega) ?_ | refine S_bin rfl rfl rfl ?_
          refine S_as rfl ?_
          refine S_nilk [0, 1, 2, 9, 10] (by simp only [proj, lk, reduceIte, Nat.reduceEqDiff]; rfl) ?_
          exact hK9 _ _ ⟨_, by omega, s + 1, true, by omega, hno1, ⟨fun _ => ⟨s, by omega, c266⟩, fun _ => rfl⟩, rfl, rfl, rfl⟩
        · replace c266 : ¬ _ := fun hp => Bool.false_ne_true (c266.symm.trans (hb266.2 hp))
          refine V_skipk [0, 1, 2, 9, 10] (by simp only [proj, lk, reduceIte, Nat.reduceEqDiff]; rfl) ?_
          refine hK12 _ _ ?_; clear hK12
          refine V_reg T.mix (by kernel_rfl) ?_
          refine S_mv rfl ?_
          first | refine S_add rfl rfl (by omega) (by omega) ?_ | refine S_bin rfl rfl rfl ?_
          refine S_as rfl ?_
          refine S_nilk [0, 1, 2, 9, 10] (by simp only [proj, lk, reduceIte, Nat.reduceEqDiff]; rfl) ?_
          exact hK9 _ _ ⟨_, by omega, s + 1, op, by omega, hno1, by rw [hop]; constructor; (rintro ⟨t, t1, t2⟩; exact ⟨t, by omega, t2⟩); (rintro ⟨t, t1, t2⟩; exact ⟨t, by have : t ≠ s := fun e => c266 (e ▸ t2); omega, t2⟩), rfl, rfl, rfl⟩
    · skip
      have hsN : s = N := by omega
      rw [hsN] at hno hop
      refine V_exitk [9] rfl (by simp only [proj, lk, reduceIte, Nat.reduceEqDiff]; rfl) ?_
      refine hK7 _ _ ?_; clear hK7
      refine V_seq (fun K20 hK20 => ?_)
      refine V_sr T.mix (by kernel_rfl) (fun K21 hK21 => ?_)
      refine S_mv rfl ?_
      refine S_nil (hK21 _ _ (V_keep [89] (by simp only [proj, lk, reduceIte, Nat.reduceEqDiff]; rfl) ?_)); clear hK21
      refine V_condb rfl (fun c270 => ?_) (fun c270 => ?_)
      · skip
        refine V_sr T.mix (by kernel_rfl) (fun K22 hK22 => ?_)
        refine S_as rfl ?_
        refine S_as rfl ?_
        refine S_as rfl ?_
        refine S_nil (hK22 _ _ (V_keep [6, 7, 8] (by simp only [proj, lk, reduceIte, Nat.reduceEqDiff]; rfl) ?_)); clear hK22
        refine V_ret ?_
        refine hR _ _ (ret3 rfl rfl rfl rfl ?_)
        obtain ⟨t, t1, t2, t3⟩ := hop.1 c270
        exact ⟨by rw [fndI_ok hk16 hak, k.lw.fnd_open hak hno t1 t2 t3]; rfl, rfl⟩
      · skip
        refine V_skipk [] (by simp only [proj, lk, reduceIte, Nat.reduceEqDiff]; rfl) ?_
        refine hK20 _ _ ?_; clear hK20
        refine V_sr T.mix (by kernel_rfl) (fun K23 hK23 => ?_)
        refine S_as rfl ?_
        refine S_as rfl ?_
        refine S_as rfl ?_
        refine S_nil (hK23 _ _ (V_keep [6, 7, 8] (by simp only [proj, lk, reduceIte, Nat.reduceEqDiff]; rfl) ?_)); clear hK23
        refine V_ret ?_
        refine hR _ _ (ret3 rfl rfl rfl rfl ?_)
        exact ⟨by rw [fndI_ok hk16 hak, k.lw.fnd_none hak hno (fun t t1 t2 t3 => by have h9 := hop.2 ⟨t, t1, t2, t3⟩; rw [c270] at h9; cases h9)]; rfl, rfl⟩
end Go.Proofs.Qxb6500404aGreat.HufW
