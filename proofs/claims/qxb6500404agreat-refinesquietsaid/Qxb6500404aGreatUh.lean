import Derived.Test.Qxb6500404aGreatUg
set_option linter.unusedVariables false
set_option linter.unusedSimpArgs false
namespace Go.Proofs.Qxb6500404aGreat
open Go.Eng Go.Bits Go.Blk HufW Go.Arc

def stp : ByteArray := ⟨#[33]⟩
def fE : List En → List Value
  | [] => []
  | x :: t => .string x.1 :: .string x.2 :: fE t
theorem fE_len : ∀ E : List En, (fE E).length = E.length * 2
  | [] => rfl
  | x :: t => by simp only [fE, List.length_cons, fE_len t]; omega
theorem fE_app : ∀ a b : List En, fE (a ++ b) = fE a ++ fE b
  | [], b => rfl
  | x :: t, b => by simp only [List.cons_append, fE, fE_app t b]
theorem fE_at : ∀ {E : List En} {i : Nat}, i < E.length → (fE E)[i * 2]? = some (.string (ga E i).1) ∧ (fE E)[i * 2 + 1]? = some (.string (ga E i).2)
  | [], i, h => absurd h (Nat.not_lt_zero _)
  | x :: t, 0, _ => ⟨rfl, rfl⟩
  | x :: t, i + 1, h => by
    have := fE_at (E := t) (i := i) (by simpa using h)
    rw [show (i + 1) * 2 = i * 2 + 1 + 1 by omega]
    exact this
theorem fE_one : ∀ E : List En, ∀ v ∈ fE E, v.oneCell' = true
  | [], v, hv => by cases hv
  | x :: t, v, hv => by
    simp only [fE, List.mem_cons] at hv
    rcases hv with rfl | rfl | hv
    · rfl
    · rfl
    · exact fE_one t v hv
theorem own_ev {lo : Nat} {h : Heap} {a : Option Addr} {E : List En} {c : Nat} {t : TypeId} (ho : OwnR lo h a E.length c (fE E) t 2) : EV lo h a E := by
  rcases ho with ⟨rfl, rfl, e, _⟩ | ⟨b, cs, e, h1, h2, h3, h4, h5, h6⟩
  · exact .inl (List.eq_nil_of_length_eq_zero e)
  · refine .inr ⟨b, e, h1, h2.lt, fun i hi => ?_⟩
    obtain ⟨q1, q2⟩ := fE_at hi
    rw [h2.cell, h2.cell, h6 _ (by rw [fE_len]; omega), h6 _ (by rw [fE_len]; omega)]
    exact ⟨q1, q2⟩
/-- a copy with two spare cells -/
def CE (h : Heap) (b : Nat) (E : List En) : Prop := ∃ cs, B h b cs 104 ∧ cs.size = (E.length + 2) * 2 ∧ (∀ i, i < E.length → cs[i * 2]? = some (.string (ga E i).1) ∧ cs[i * 2 + 1]? = some (.string (ga E i).2)) ∧ ∀ j, E.length * 2 ≤ j → j < (E.length + 2) * 2 → cs[j]? = some (.string stp)
theorem CE.ext {h h' : Heap} {b : Nat} {E : List En} {S : Nat → Prop} (c : CE h b E) (he : Ext S h h') (hs : ¬ S b) : CE h' b E := by
  obtain ⟨cs, h1, h2⟩ := c
  exact ⟨cs, h1.ext he hs, h2⟩
theorem CE.ev {h : Heap} {b : Nat} {E : List En} (c : CE h b E) {lo : Nat} (hl : lo ≤ b) : EV lo h (some ⟨b, 0, none⟩) E := by
  obtain ⟨cs, h1, h2, h3, h4⟩ := c
  exact .inr ⟨b, rfl, hl, h1.lt, fun i hi => by rw [h1.cell, h1.cell]; exact h3 i hi⟩
theorem CE.lt {h : Heap} {b : Nat} {E : List En} (c : CE h b E) : b < h.size := by
  obtain ⟨cs, h1, _⟩ := c
  exact h1.lt
theorem dear_app : ∀ a b : List En, dear (a ++ b) + 4 = dear a + dear b
  | [], b => by simp [dear]; omega
  | x :: t, b => by have := dear_app t b; simp only [List.cons_append, dear]; omega
theorem dear_take {E : List En} {i : Nat} (h : i < E.length) : dear (E.take (i + 1)) = dear (E.take i) + (ga E i).1.size + (ga E i).2.size + 12 := by
  have := dear_app (E.take i) [ga E i]
  rw [ga_take h]
  simp only [dear] at this
  omega
def Pd' (u : ByteArray) (p : Nat) : Prop := ∀ j, p ≤ j → j < u.size → bAt u j = bAt u (j - p)
def bel (K D : Nat) : Array Value := #[.pointer (some ⟨K, 0, none⟩), .pointer (some ⟨D, 0, none⟩)]

theorem mkZ_two (v : Value) (n : Nat) : mkZ #[v, v] n = arr n fun _ => v := mkZ_const (by simp) (by
  intro i hi
  simp at hi
  rcases i with _ | _ | i
  · rfl
  · rfl
  · omega)
set_option maxHeartbeats 800000 in
theorem sameentries_spec (h : Heap) (lo : Nat) (a a2 : Option Addr) (c c2 : Nat) (Q : List En) (ev : EV lo h a Q) (ev2 : EV lo h a2 Q) (hQ : Q.length ≤ 9) :
    FC Tryz.prog 33 (#[.slice a Q.length c, .slice a2 Q.length c2] : Array Value) h fun rv h' => rv = .bool true ∧ h = h' := by
  refine FC_of [(0, .slice a Q.length c), (1, .slice a2 Q.length c2)] Tryz.func33 rfl Tryz.ntmps33 (by simp) rfl (fun R hR => ?_)
  refine V_sr T.mix (by kernel_rfl) (fun K1 hK1 => ?_)
  refine S_as rfl ?_
  refine S_nil (hK1 _ _ (V_keep [0, 1] (by simp only [proj, lk, reduceIte, Nat.reduceEqDiff]; rfl) ?_)); clear hK1
  refine V_seq (fun K2 hK2 => ?_)
  refine V_sr T.mix (by kernel_rfl) (fun K3 hK3 => ?_)
  refine S_mv rfl ?_
  refine S_lenl T.el37 rfl ?_
  refine S_mv rfl ?_
  refine S_lenl T.el37 rfl ?_
  refine S_bin rfl rfl rfl ?_
  refine S_nil (hK3 _ _ (V_keep [0, 1, 10] (by simp only [proj, lk, reduceIte, Nat.reduceEqDiff]; rfl) ?_)); clear hK3
  refine V_condp rfl (fun c59 => ?_) (fun c59 => ?_)
  · skip
    exfalso; exact c59 rfl
  · skip
    refine V_skipk [0, 1] (by simp only [proj, lk, reduceIte, Nat.reduceEqDiff]; rfl) ?_
    refine hK2 _ _ ?_; clear hK2
    refine V_seq (fun K4 hK4 => ?_)
    refine V_sr T.mix (by kernel_rfl) (fun K5 hK5 => ?_)
    refine S_as rfl ?_
    refine S_nil (hK5 _ _ (V_keep [0, 1, 5] (by simp only [proj, lk, reduceIte, Nat.reduceEqDiff]; rfl) ?_)); clear hK5
    refine V_block ?_
    refine V_loop (fun m l h' => ∃ (i : Nat), (i ≤ Q.length) ∧ m = Q.length - i ∧ l = [(0, .slice a Q.length c), (1, .slice a2 Q.length c2), (5, .int .i64 (i : Int))] ∧ h = h') _ ⟨0, Nat.zero_le _, rfl, rfl, rfl⟩ ?_
    rintro m l h' ⟨i, hi, rfl, rfl, rfl⟩ K6 hK6
    refine V_seq (fun K7 hK7 => ?_)
    refine V_sr T.mix (by kernel_rfl) (fun K8 hK8 => ?_)
    refine S_mv rfl ?_
    refine S_mv rfl ?_
    refine S_lenl T.el37 rfl ?_
    refine S_bin rfl rfl rfl ?_
    refine S_nil (hK8 _ _ (V_keep [0, 1, 5, 14] (by simp only [proj, lk, reduceIte, Nat.reduceEqDiff]; rfl) ?_)); clear hK8
    refine V_condp rfl (fun c62 => ?_) (fun c62 => ?_)
    · skip
      obtain ⟨b1, rfl, _, _, hpc⟩ := ev.get (i := i) (by omega)
      have p0 := (hpc i (by omega)).1
      have p1 := (hpc i (by omega)).2
      obtain ⟨b2, rfl, _, _, hqc⟩ := ev2.get (i := i) (by omega)
      have q0 := (hqc i (by omega)).1
      have q1 := (hqc i (by omega)).2
      refine V_skipk [0, 1, 5] (by simp only [proj, lk, reduceIte, Nat.reduceEqDiff]; rfl) ?_
      refine hK7 _ _ ?_; clear hK7
      refine V_seq (fun K9 hK9 => ?_)
      refine V_block ?_
      refine V_sr T.mix (by kernel_rfl) (fun K10 hK10 => ?_)
      refine S_mv rfl ?_
      refine S_mv rfl ?_
      refine S_ix T.el37 rfl rfl (by omega) (by omega) ?_
      rw [Nat.zero_add, Int.toNat_natCast]
      first | refine S_fa0 T.f104_0 rfl ?_ | refine S_fa T.f104_0 rfl ?_
      refine S_ldK T.ag9 rfl (fun K' hK' => ?_)
      simp (disch := omega) only [p0, p1, q0, q1, oP_some, Nat.add_zero]
      refine hK' _ ?_; clear hK' K'
      refine S_mv rfl ?_
      refine S_mv rfl ?_
      refine S_ix T.el37 rfl rfl (by omega) (by omega) ?_
      rw [Nat.zero_add, Int.toNat_natCast]
      first | refine S_fa0 T.f104_0 rfl ?_ | refine S_fa T.f104_0 rfl ?_
      refine S_ldK T.ag9 rfl (fun K' hK' => ?_)
      simp (disch := omega) only [p0, p1, q0, q1, oP_some, Nat.add_zero]
      refine hK' _ ?_; clear hK' K'
      refine S_bin rfl rfl rfl ?_
      refine S_mv rfl ?_
      refine S_dec (fun g63 => ?_) (fun g63 => ?_)
      · skip
        exact absurd rfl g63
      · skip
        refine S_gt rfl ?_
        refine S_mv rfl ?_
        refine S_gt rfl ?_
        refine S_mv rfl ?_
        refine S_gt rfl ?_
        refine S_ix T.el37 rfl rfl (by omega) (by omega) ?_
        rw [Nat.zero_add, Int.toNat_natCast]
        refine S_gt rfl ?_
        first | refine S_fa0 T.f104_1 rfl ?_ | refine S_fa T.f104_1 rfl ?_
        refine S_gt rfl ?_
        refine S_ldK T.ag9 rfl (fun K' hK' => ?_)
        simp (disch := omega) only [p0, p1, q0, q1, oP_some, Nat.add_zero]
        refine hK' _ ?_; clear hK' K'
        refine S_gt rfl ?_
        refine S_mv rfl ?_
        refine S_gt rfl ?_
        refine S_mv rfl ?_
        refine S_gt rfl ?_
        refine S_ix T.el37 rfl rfl (by omega) (by omega) ?_
        rw [Nat.zero_add, Int.toNat_natCast]
        refine S_gt rfl ?_
        first | refine S_fa0 T.f104_1 rfl ?_ | refine S_fa T.f104_1 rfl ?_
        refine S_gt rfl ?_
        refine S_ldK T.ag9 rfl (fun K' hK' => ?_)
        simp (disch := omega) only [p0, p1, q0, q1, oP_some, Nat.add_zero]
        refine hK' _ ?_; clear hK' K'
        refine S_gt rfl ?_
        refine S_bin rfl rfl rfl ?_
        refine S_pf rfl rfl ?_
        refine S_nil (hK10 _ _ (V_keep [0, 1, 5, 40] (by simp only [proj, lk, reduceIte, Nat.reduceEqDiff]; rfl) ?_)); clear hK10
        refine V_condp rfl (fun c63 => ?_) (fun c63 => ?_)
        · skip
          exact absurd rfl c63
        · skip
          refine V_skipk [0, 1, 5] (by simp only [proj, lk, reduceIte, Nat.reduceEqDiff]; rfl) ?_
          refine hK9 _ _ ?_; clear hK9
          refine V_reg T.mix (by kernel_rfl) ?_
          refine S_mv rfl ?_
          refine S_addN (i + 1) rfl rfl (by omega) (by omega) ?_
          refine S_as rfl ?_
          refine S_nilk [0, 1, 5] (by simp only [proj, lk, reduceIte, Nat.reduceEqDiff]; rfl) ?_
          exact hK6 _ _ ⟨_, by omega, i + 1, by omega, rfl, rfl, rfl⟩
    · skip
      refine V_exitk [] rfl (by simp only [proj, lk, reduceIte, Nat.reduceEqDiff]; rfl) ?_
      refine hK4 _ _ ?_; clear hK4
      refine V_sr T.mix (by kernel_rfl) (fun K11 hK11 => ?_)
      refine S_as rfl ?_
      refine S_nil (hK11 _ _ (V_keep [4] (by simp only [proj, lk, reduceIte, Nat.reduceEqDiff]; rfl) ?_)); clear hK11
      refine V_ret ?_
      refine hR _ _ (ret1 rfl rfl ?_)
      exact ⟨rfl, rfl⟩
set_option maxHeartbeats 800000 in
theorem sameinfos_spec (h : Heap) (a a2 : Option Addr) (c c2 : Nat) (L : List In) (ev : IV h a L) (ev2 : IV h a2 L) (hQ : L.length ≤ 9) :
    FC Tryz.prog 39 (#[.slice a L.length c, .slice a2 L.length c2] : Array Value) h fun rv h' => rv = .bool true ∧ h = h' := by
  refine FC_of [(0, .slice a L.length c), (1, .slice a2 L.length c2)] Tryz.func39 rfl Tryz.ntmps39 (by simp) rfl (fun R hR => ?_)
  refine V_sr T.mix (by kernel_rfl) (fun K1 hK1 => ?_)
  refine S_as rfl ?_
  refine S_nil (hK1 _ _ (V_keep [0, 1] (by simp only [proj, lk, reduceIte, Nat.reduceEqDiff]; rfl) ?_)); clear hK1
  refine V_seq (fun K2 hK2 => ?_)
  refine V_sr T.mix (by kernel_rfl) (fun K3 hK3 => ?_)
  refine S_mv rfl ?_
  refine S_lenl T.el38 rfl ?_
  refine S_mv rfl ?_
  refine S_lenl T.el38 rfl ?_
  refine S_bin rfl rfl rfl ?_
  refine S_nil (hK3 _ _ (V_keep [0, 1, 10] (by simp only [proj, lk, reduceIte, Nat.reduceEqDiff]; rfl) ?_)); clear hK3
  refine V_condp rfl (fun c72 => ?_) (fun c72 => ?_)
  · skip
    exfalso; exact c72 rfl
  · skip
    refine V_skipk [0, 1] (by simp only [proj, lk, reduceIte, Nat.reduceEqDiff]; rfl) ?_
    refine hK2 _ _ ?_; clear hK2
    refine V_seq (fun K4 hK4 => ?_)
    refine V_sr T.mix (by kernel_rfl) (fun K5 hK5 => ?_)
    refine S_as rfl ?_
    refine S_nil (hK5 _ _ (V_keep [0, 1, 5] (by simp only [proj, lk, reduceIte, Nat.reduceEqDiff]; rfl) ?_)); clear hK5
    refine V_block ?_
    refine V_loop (fun m l h' => ∃ (i : Nat), (i ≤ L.length) ∧ m = L.length - i ∧ l = [(0, .slice a L.length c), (1, .slice a2 L.length c2), (5, .int .i64 (i : Int))] ∧ h = h') _ ⟨0, Nat.zero_le _, rfl, rfl, rfl⟩ ?_
    rintro m l h' ⟨i, hi, rfl, rfl, rfl⟩ K6 hK6
    refine V_seq (fun K7 hK7 => ?_)
    refine V_sr T.mix (by kernel_rfl) (fun K8 hK8 => ?_)
    refine S_mv rfl ?_
    refine S_mv rfl ?_
    refine S_lenl T.el38 rfl ?_
    refine S_bin rfl rfl rfl ?_
    refine S_nil (hK8 _ _ (V_keep [0, 1, 5, 14] (by simp only [proj, lk, reduceIte, Nat.reduceEqDiff]; rfl) ?_)); clear hK8
    refine V_condp rfl (fun c75 => ?_) (fun c75 => ?_)
    · skip
      obtain ⟨b1, rfl, hpc⟩ := ev.get (i := i) (by omega)
      have p0 := (hpc i (by omega)).1
      have p1 := (hpc i (by omega)).2.1
      have p2 := (hpc i (by omega)).2.2
      obtain ⟨b2, rfl, hqc⟩ := ev2.get (i := i) (by omega)
      have q0 := (hqc i (by omega)).1
      have q1 := (hqc i (by omega)).2.1
      have q2 := (hqc i (by omega)).2.2
      refine V_skipk [0, 1, 5] (by simp only [proj, lk, reduceIte, Nat.reduceEqDiff]; rfl) ?_
      refine hK7 _ _ ?_; clear hK7
      refine V_seq (fun K9 hK9 => ?_)
      refine V_block ?_
      refine V_sr T.mix (by kernel_rfl) (fun K10 hK10 => ?_)
      refine S_mv rfl ?_
      refine S_mv rfl ?_
      first | refine S_ixmn T.el38 rfl rfl (by omega) ?_ | refine S_ixm T.el38 rfl rfl (by omega) (by omega) ?_ | refine S_ix T.el38 rfl rfl (by omega) (by omega) ?_
      first | refine S_fa0 T.f122_0 rfl ?_ | refine S_fa T.f122_0 rfl ?_
      refine S_ldK T.ag9 rfl (fun K' hK' => ?_)
      simp (disch := omega) only [p0, p1, p2, q0, q1, q2, oP_some, Nat.add_zero]
      refine hK' _ ?_; clear hK' K'
      refine S_mv rfl ?_
      refine S_mv rfl ?_
      first | refine S_ixmn T.el38 rfl rfl (by omega) ?_ | refine S_ixm T.el38 rfl rfl (by omega) (by omega) ?_ | refine S_ix T.el38 rfl rfl (by omega) (by omega) ?_
      first | refine S_fa0 T.f122_0 rfl ?_ | refine S_fa T.f122_0 rfl ?_
      refine S_ldK T.ag9 rfl (fun K' hK' => ?_)
      simp (disch := omega) only [p0, p1, p2, q0, q1, q2, oP_some, Nat.add_zero]
      refine hK' _ ?_; clear hK' K'
      refine S_bin rfl rfl rfl ?_
      refine S_mv rfl ?_
      refine S_dec (fun g76 => ?_) (fun g76 => ?_)
      · skip
        exact absurd rfl g76
      · skip
        refine S_gt rfl ?_
        refine S_mv rfl ?_
        refine S_gt rfl ?_
        refine S_mv rfl ?_
        refine S_gt rfl ?_
        first | refine S_ixmn T.el38 rfl rfl (by omega) ?_ | refine S_ixm T.el38 rfl rfl (by omega) (by omega) ?_ | refine S_ix T.el38 rfl rfl (by omega) (by omega) ?_
        refine S_gt rfl ?_
        first | refine S_fa0 T.f122_1 rfl ?_ | refine S_fa T.f122_1 rfl ?_
        refine S_gt rfl ?_
        refine S_ldK T.ag3 rfl (fun K' hK' => ?_)
        simp (disch := omega) only [p0, p1, p2, q0, q1, q2, oP_some, Nat.add_zero]
        refine hK' _ ?_; clear hK' K'
        refine S_gt rfl ?_
        refine S_mv rfl ?_
        refine S_gt rfl ?_
        refine S_mv rfl ?_
        refine S_gt rfl ?_
        first | refine S_ixmn T.el38 rfl rfl (by omega) ?_ | refine S_ixm T.el38 rfl rfl (by omega) (by omega) ?_ | refine S_ix T.el38 rfl rfl (by omega) (by omega) ?_
        refine S_gt rfl ?_
        first | refine S_fa0 T.f122_1 rfl ?_ | refine S_fa T.f122_1 rfl ?_
        refine S_gt rfl ?_
        refine S_ldK T.ag3 rfl (fun K' hK' => ?_)
        simp (disch := omega) only [p0, p1, p2, q0, q1, q2, oP_some, Nat.add_zero]
        refine hK' _ ?_; clear hK' K'
        refine S_gt rfl ?_
        refine S_bin rfl rfl rfl ?_
        refine S_pf rfl rfl ?_
        refine S_mv rfl ?_
        refine S_dec (fun g76a => ?_) (fun g76a => ?_)
        · skip
          exact absurd rfl g76a
        · skip
          refine S_gt rfl ?_
          refine S_mv rfl ?_
          refine S_gt rfl ?_
          refine S_mv rfl ?_
          refine S_gt rfl ?_
          first | refine S_ixmn T.el38 rfl rfl (by omega) ?_ | refine S_ixm T.el38 rfl rfl (by omega) (by omega) ?_ | refine S_ix T.el38 rfl rfl (by omega) (by omega) ?_
          refine S_gt rfl ?_
          first | refine S_fa0 T.f122_2 rfl ?_ | refine S_fa T.f122_2 rfl ?_
          refine S_gt rfl ?_
          refine S_ldK T.ag3 rfl (fun K' hK' => ?_)
          simp (disch := omega) only [p0, p1, p2, q0, q1, q2, oP_some, Nat.add_zero]
          refine hK' _ ?_; clear hK' K'
          refine S_gt rfl ?_
          refine S_mv rfl ?_
          refine S_gt rfl ?_
          refine S_mv rfl ?_
          refine S_gt rfl ?_
          first | refine S_ixmn T.el38 rfl rfl (by omega) ?_ | refine S_ixm T.el38 rfl rfl (by omega) (by omega) ?_ | refine S_ix T.el38 rfl rfl (by omega) (by omega) ?_
          refine S_gt rfl ?_
          first | refine S_fa0 T.f122_2 rfl ?_ | refine S_fa T.f122_2 rfl ?_
          refine S_gt rfl ?_
          refine S_ldK T.ag3 rfl (fun K' hK' => ?_)
          simp (disch := omega) only [p0, p1, p2, q0, q1, q2, oP_some, Nat.add_zero]
          refine hK' _ ?_; clear hK' K'
          refine S_gt rfl ?_
          refine S_bin rfl rfl rfl ?_
          refine S_pf rfl rfl ?_
          refine S_nil (hK10 _ _ (V_keep [0, 1, 5, 53] (by simp only [proj, lk, reduceIte, Nat.reduceEqDiff]; rfl) ?_)); clear hK10
          refine V_condp rfl (fun c76 => ?_) (fun c76 => ?_)
          · skip
            exact absurd rfl c76
          · skip
            refine V_skipk [0, 1, 5] (by simp only [proj, lk, reduceIte, Nat.reduceEqDiff]; rfl) ?_
            refine hK9 _ _ ?_; clear hK9
            refine V_reg T.mix (by kernel_rfl) ?_
            refine S_mv rfl ?_
            first | refine S_add rfl rfl (by omega) (by omega) ?_ | refine S_bin rfl rfl rfl ?_
            refine S_as rfl ?_
            refine S_nilk [0, 1, 5] (by simp only [proj, lk, reduceIte, Nat.reduceEqDiff]; rfl) ?_
            exact hK6 _ _ ⟨_, by omega, i + 1, by omega, rfl, rfl, rfl⟩
    · skip
      refine V_exitk [] rfl (by simp only [proj, lk, reduceIte, Nat.reduceEqDiff]; rfl) ?_
      refine hK4 _ _ ?_; clear hK4
      refine V_sr T.mix (by kernel_rfl) (fun K11 hK11 => ?_)
      refine S_as rfl ?_
      refine S_nil (hK11 _ _ (V_keep [4] (by simp only [proj, lk, reduceIte, Nat.reduceEqDiff]; rfl) ?_)); clear hK11
      refine V_ret ?_
      refine hR _ _ (ret1 rfl rfl ?_)
      exact ⟨rfl, rfl⟩
set_option maxHeartbeats 1600000 in
theorem copyentries_spec (h : Heap) (lo : Nat) (a : Option Addr) (c : Nat) (Q : List En) (ow : OwnR lo h a Q.length c (fE Q) 104 2) (hQ : Q.length ≤ 5) :
    FC Tryz.prog 27 (#[.slice a Q.length c] : Array Value) h fun rv h' => ∃ b, rv = .slice (some ⟨b, 0, none⟩) Q.length (Q.length + 2) ∧ h.size ≤ b ∧ CE h' b Q ∧ Ext (fun _ => False) h h' := by
  refine FC_of [(0, .slice a Q.length c)] Tryz.func27 rfl Tryz.ntmps27 (by simp) rfl (fun R hR => ?_)
  refine V_sr T.mix (by kernel_rfl) (fun K1 hK1 => ?_)
  refine S_as rfl ?_
  refine S_nil (hK1 _ _ (V_keep [0] (by simp only [proj, lk, reduceIte, Nat.reduceEqDiff]; rfl) ?_)); clear hK1
  refine V_sr T.mix (by kernel_rfl) (fun K2 hK2 => ?_)
  refine S_mv rfl ?_
  refine S_lenl T.el37 rfl ?_
  refine S_addN (Q.length + 2) rfl rfl (by omega) (by omega) ?_
  refine S_mk T.ei37 rfl rfl (by omega) (by omega) (by omega) (by omega) ?_
  rw [Int.toNat_natCast, mkZ_two]
  generalize hh : Array.push h _ = h1
  have b1 : B h1 h.size (arr ((Q.length + 2) * 2) fun _ => .string ⟨#[]⟩) 104 := by rw [← hh]; exact B.new _ _ _
  have hEh1 : Ext (fun _ => False) h h1 := by rw [← hh]; exact Ext.push _ _ _
  clear hh
  refine S_as rfl ?_
  refine S_nil (hK2 _ _ (V_keep [0, 3] (by simp only [proj, lk, reduceIte, Nat.reduceEqDiff]; rfl) ?_)); clear hK2
  refine V_sr T.mix (by kernel_rfl) (fun K3 hK3 => ?_)
  refine S_mv rfl ?_
  refine S_mv rfl ?_
  refine S_copyx (k := Q.length) (xs := fE Q) T.el37 rfl (by omega) (OwnR.cells (ow.ext hEh1 (fun _ _ f => f))) b1 (by rw [fE_len]; omega) (fE_one Q) (fun h2 b2 hE2 hs2 => ?_)
  have wok : ∀ j, j < (Q.length + 2) * 2 → okPut h2 ⟨h.size, j, none⟩ = true := fun j hj => b2.okA hj
  refine S_nil (hK3 _ _ (V_keep [0, 3] (by simp only [proj, lk, reduceIte, Nat.reduceEqDiff]; rfl) ?_)); clear hK3
  refine V_sr T.mix (by kernel_rfl) (fun K4 hK4 => ?_)
  refine S_mv rfl ?_
  refine S_mv rfl ?_
  refine S_lenl T.el37 rfl ?_
  refine S_bld rfl (T.bld104_0_1 _ _) ?_
  refine S_ix T.el37 rfl rfl (by omega) (by omega) ?_
  rw [Nat.zero_add, Int.toNat_natCast]
  refine S_stl T.sz104 rfl rfl rfl rfl (fun j hj => by simp (disch := omega) only [wok]) ?_
  generalize hh : putsH _ _ _ _ = h3
  obtain ⟨cs3, bo3, hs3, hp3, hq3⟩ : ∃ cs3, B h3 h.size cs3 104 ∧ cs3.size = (Q.length + 2) * 2 ∧ (∀ j, j < 2 → cs3[Q.length * 2 + j]? = ([.string stp, .string stp] : List Value)[j]?) ∧ ∀ j, j < Q.length * 2 ∨ Q.length * 2 + 2 ≤ j → cs3[j]? = (arr ((Q.length + 2) * 2) fun j => if j < (fE Q).length then (fE Q).getD j undef else .string ⟨#[]⟩)[j]? := by rw [← hh]; obtain ⟨c9, k1, k2, k3, k4⟩ := puts_at (vs := [.string stp, .string stp]) (o := Q.length * 2) b2 (by rw [arr_size]; simp only [List.length_cons, List.length_nil]; omega); exact ⟨c9, k1, by rw [k2, arr_size], k3, k4⟩
  have hEh3 : Ext (fun z => z = h.size) h2 h3 := by rw [← hh]; exact Ext.puts (S := fun z => z = h.size) rfl _ _ _
  clear hh wok
  have wok : ∀ j, j < (Q.length + 2) * 2 → okPut h3 ⟨h.size, j, none⟩ = true := fun j hj => bo3.ok (by omega)
  refine S_nil (hK4 _ _ (V_keep [0, 3] (by simp only [proj, lk, reduceIte, Nat.reduceEqDiff]; rfl) ?_)); clear hK4
  refine V_sr T.mix (by kernel_rfl) (fun K5 hK5 => ?_)
  refine S_mv rfl ?_
  refine S_mv rfl ?_
  refine S_lenl T.el37 rfl ?_
  refine S_addN (Q.length + 1) rfl rfl (by omega) (by omega) ?_
  refine S_bld rfl (T.bld104_0_1 _ _) ?_
  refine S_ix T.el37 rfl rfl (by omega) (by omega) ?_
  rw [Nat.zero_add, Int.toNat_natCast]
  refine S_stl T.sz104 rfl rfl rfl rfl (fun j hj => by simp (disch := omega) only [wok]) ?_
  generalize hh : putsH _ _ _ _ = h4
  obtain ⟨cs4, bo4, hs4, hp4, hq4⟩ : ∃ cs4, B h4 h.size cs4 104 ∧ cs4.size = cs3.size ∧ (∀ j, j < 2 → cs4[(Q.length + 1) * 2 + j]? = ([.string stp, .string stp] : List Value)[j]?) ∧ ∀ j, j < (Q.length + 1) * 2 ∨ (Q.length + 1) * 2 + 2 ≤ j → cs4[j]? = cs3[j]? := by rw [← hh]; exact puts_at bo3 (by simp only [List.length_cons, List.length_nil]; omega)
  have hEh4 : Ext (fun z => z = h.size) h3 h4 := by rw [← hh]; exact Ext.puts (S := fun z => z = h.size) rfl _ _ _
  clear hh
  refine S_nil (hK5 _ _ (V_keep [0, 3] (by simp only [proj, lk, reduceIte, Nat.reduceEqDiff]; rfl) ?_)); clear hK5
  refine V_sr T.mix (by kernel_rfl) (fun K6 hK6 => ?_)
  refine S_mv rfl ?_
  refine S_mv rfl ?_
  refine S_lenl T.el37 rfl ?_
  refine S_sl rfl rfl rfl (sliceV_hi T.el37 (by omega) (by omega)) ?_
  rw [Int.toNat_natCast]
  refine S_as rfl ?_
  refine S_nil (hK6 _ _ (V_keep [2] (by simp only [proj, lk, reduceIte, Nat.reduceEqDiff]; rfl) ?_)); clear hK6
  refine V_ret ?_
  refine hR _ _ (ret1 rfl rfl ?_)
  refine ⟨h.size, rfl, Nat.le_refl _, ⟨cs4, bo4, by omega, fun i hi => ?_, fun j j1 j2 => ?_⟩, ((hEh1.step hE2 (fun b hb e => by omega)).step hEh3 (fun b hb e => by omega)).step hEh4 (fun b hb e => by omega)⟩
  · obtain ⟨q1, q2⟩ := fE_at hi
    have hfl := fE_len Q
    rw [hq4 _ (by omega), hq4 _ (by omega), hq3 _ (by omega), hq3 _ (by omega), arr_get (by omega), arr_get (by omega), if_pos (by omega), if_pos (by omega), List.getD_eq_getElem?_getD, List.getD_eq_getElem?_getD, q1, q2]
    exact ⟨rfl, rfl⟩
  · rcases Nat.lt_or_ge j ((Q.length + 1) * 2) with w | w
    · rw [hq4 _ (by omega), show j = Q.length * 2 + (j - Q.length * 2) by omega, hp3 _ (by omega)]
      rcases (show j - Q.length * 2 = 0 ∨ j - Q.length * 2 = 1 by omega) with e | e <;> rw [e] <;> rfl
    · rw [show j = (Q.length + 1) * 2 + (j - (Q.length + 1) * 2) by omega, hp4 _ (by omega)]
      rcases (show j - (Q.length + 1) * 2 = 0 ∨ j - (Q.length + 1) * 2 = 1 by omega) with e | e <;> rw [e] <;> rfl
set_option maxHeartbeats 800000 in
theorem spare_spec (h : Heap) (b : Nat) (Q : List En) (ce : CE h b Q) (hQ : Q.length ≤ 5) :
    FC Tryz.prog 34 (#[.slice (some ⟨b, 0, none⟩) Q.length (Q.length + 2)] : Array Value) h fun rv h' => rv = .bool true ∧ h = h' := by
  obtain ⟨cs, bc, hsz, hen, hst⟩ := ce
  refine FC_of [(0, .slice (some ⟨b, 0, none⟩) Q.length (Q.length + 2))] Tryz.func34 rfl Tryz.ntmps34 (by simp) rfl (fun R hR => ?_)
  refine V_sr T.mix (by kernel_rfl) (fun K1 hK1 => ?_)
  refine S_as rfl ?_
  refine S_nil (hK1 _ _ (V_keep [0] (by simp only [proj, lk, reduceIte, Nat.reduceEqDiff]; rfl) ?_)); clear hK1
  refine V_sr T.mix (by kernel_rfl) (fun K2 hK2 => ?_)
  refine S_mv rfl ?_
  refine S_mv rfl ?_
  refine S_capl T.el37 rfl ?_
  refine S_sl rfl rfl rfl (sliceV_hi T.el37 (by omega) (by omega)) ?_
  rw [Int.toNat_natCast]
  refine S_as rfl ?_
  refine S_nil (hK2 _ _ (V_keep [0, 3] (by simp only [proj, lk, reduceIte, Nat.reduceEqDiff]; rfl) ?_)); clear hK2
  refine V_seq (fun K3 hK3 => ?_)
  refine V_sr T.mix (by kernel_rfl) (fun K4 hK4 => ?_)
  refine S_mv rfl ?_
  refine S_lenl T.el37 rfl ?_
  refine S_as rfl ?_
  refine S_nil (hK4 _ _ (V_keep [3, 4] (by simp only [proj, lk, reduceIte, Nat.reduceEqDiff]; rfl) ?_)); clear hK4
  refine V_block ?_
  refine V_loop (fun m l h' => ∃ (i : Nat), (Q.length ≤ i) ∧ (i ≤ Q.length + 2) ∧ m = Q.length + 2 - i ∧ l = [(3, .slice (some ⟨b, 0, none⟩) (Q.length + 2) (Q.length + 2)), (4, .int .i64 (i : Int))] ∧ h = h') _ ⟨Q.length, Nat.le_refl _, by omega, rfl, rfl, rfl⟩ ?_
  rintro m l h' ⟨i, hi, hi2, rfl, rfl, rfl⟩ K5 hK5
  refine V_seq (fun K6 hK6 => ?_)
  refine V_sr T.mix (by kernel_rfl) (fun K7 hK7 => ?_)
  refine S_mv rfl ?_
  refine S_mv rfl ?_
  refine S_lenl T.el37 rfl ?_
  refine S_bin rfl rfl rfl ?_
  refine S_nil (hK7 _ _ (V_keep [3, 4, 14] (by simp only [proj, lk, reduceIte, Nat.reduceEqDiff]; rfl) ?_)); clear hK7
  refine V_condp rfl (fun c95 => ?_) (fun c95 => ?_)
  · skip
    have p0 : cellH h ⟨b, i * 2, none⟩ = some (.string stp) := by rw [bc.cell]; exact hst _ (by omega) (by omega)
    have p1 : cellH h ⟨b, i * 2 + 1, none⟩ = some (.string stp) := by rw [bc.cell]; exact hst _ (by omega) (by omega)
    refine V_skipk [3, 4] (by simp only [proj, lk, reduceIte, Nat.reduceEqDiff]; rfl) ?_
    refine hK6 _ _ ?_; clear hK6
    refine V_seq (fun K8 hK8 => ?_)
    refine V_block ?_
    refine V_sr T.mix (by kernel_rfl) (fun K9 hK9 => ?_)
    refine S_mv rfl ?_
    refine S_mv rfl ?_
    refine S_ix T.el37 rfl rfl (by omega) (by omega) ?_
    rw [Nat.zero_add, Int.toNat_natCast]
    first | refine S_fa0 T.f104_0 rfl ?_ | refine S_fa T.f104_0 rfl ?_
    refine S_ldK T.ag9 rfl (fun K' hK' => ?_)
    simp (disch := omega) only [p0, p1, oP_some, Nat.add_zero]
    refine hK' _ ?_; clear hK' K'
    refine S_bin rfl rfl rfl ?_
    refine S_mv rfl ?_
    refine S_dec (fun g96 => ?_) (fun g96 => ?_)
    · skip
      exact absurd rfl g96
    · skip
      refine S_gt rfl ?_
      refine S_mv rfl ?_
      refine S_gt rfl ?_
      refine S_mv rfl ?_
      refine S_gt rfl ?_
      refine S_ix T.el37 rfl rfl (by omega) (by omega) ?_
      rw [Nat.zero_add, Int.toNat_natCast]
      refine S_gt rfl ?_
      first | refine S_fa0 T.f104_1 rfl ?_ | refine S_fa T.f104_1 rfl ?_
      refine S_gt rfl ?_
      refine S_ldK T.ag9 rfl (fun K' hK' => ?_)
      simp (disch := omega) only [p0, p1, oP_some, Nat.add_zero]
      refine hK' _ ?_; clear hK' K'
      refine S_gt rfl ?_
      refine S_bin rfl rfl rfl ?_
      refine S_pf rfl rfl ?_
      refine S_nil (hK9 _ _ (V_keep [3, 4, 30] (by simp only [proj, lk, reduceIte, Nat.reduceEqDiff]; rfl) ?_)); clear hK9
      refine V_condp rfl (fun c96 => ?_) (fun c96 => ?_)
      · skip
        exact absurd rfl c96
      · skip
        refine V_skipk [3, 4] (by simp only [proj, lk, reduceIte, Nat.reduceEqDiff]; rfl) ?_
        refine hK8 _ _ ?_; clear hK8
        refine V_reg T.mix (by kernel_rfl) ?_
        refine S_mv rfl ?_
        refine S_addN (i + 1) rfl rfl (by omega) (by omega) ?_
        refine S_as rfl ?_
        refine S_nilk [3, 4] (by simp only [proj, lk, reduceIte, Nat.reduceEqDiff]; rfl) ?_
        exact hK5 _ _ ⟨_, by omega, i + 1, by omega, by omega, rfl, rfl, rfl⟩
  · skip
    refine V_exitk [] rfl (by simp only [proj, lk, reduceIte, Nat.reduceEqDiff]; rfl) ?_
    refine hK3 _ _ ?_; clear hK3
    refine V_sr T.mix (by kernel_rfl) (fun K10 hK10 => ?_)
    refine S_as rfl ?_
    refine S_nil (hK10 _ _ (V_keep [2] (by simp only [proj, lk, reduceIte, Nat.reduceEqDiff]; rfl) ?_)); clear hK10
    refine V_ret ?_
    refine hR _ _ (ret1 rfl rfl ?_)
    exact ⟨rfl, rfl⟩
set_option maxHeartbeats 400000 in
theorem dear_spec (h : Heap) (lo : Nat) (a : Option Addr) (c : Nat) (Q : List En) (ev : EV lo h a Q) (hQ : Q.length ≤ 5) (hq : ∀ x ∈ Q, x.1.size ≤ 8 ∧ x.2.size ≤ 256) :
    FC Tryz.prog 62 (#[.slice a Q.length c] : Array Value) h fun rv h' => rv = .int .i64 ((dear Q : Nat) : Int) ∧ h = h' := by
  refine FC_of [(0, .slice a Q.length c)] Tryz.func62 rfl Tryz.ntmps62 (by simp) rfl (fun R hR => ?_)
  refine V_sr T.mix (by kernel_rfl) (fun K1 hK1 => ?_)
  refine S_as rfl ?_
  refine S_nil (hK1 _ _ (V_keep [0] (by simp only [proj, lk, reduceIte, Nat.reduceEqDiff]; rfl) ?_)); clear hK1
  refine V_sr T.mix (by kernel_rfl) (fun K2 hK2 => ?_)
  refine S_as rfl ?_
  refine S_nil (hK2 _ _ (V_keep [0, 3] (by simp only [proj, lk, reduceIte, Nat.reduceEqDiff]; rfl) ?_)); clear hK2
  refine V_seq (fun K3 hK3 => ?_)
  refine V_sr T.mix (by kernel_rfl) (fun K4 hK4 => ?_)
  refine S_as rfl ?_
  refine S_nil (hK4 _ _ (V_keep [0, 3, 4] (by simp only [proj, lk, reduceIte, Nat.reduceEqDiff]; rfl) ?_)); clear hK4
  refine V_block ?_
  refine V_loop (fun m l h' => ∃ (i n : Nat), (i ≤ Q.length) ∧ (n = dear (Q.take i)) ∧ (n ≤ 4 + 276 * i) ∧ m = Q.length - i ∧ l = [(0, .slice a Q.length c), (3, .int .i64 (n : Int)), (4, .int .i64 (i : Int))] ∧ h = h') _ ⟨0, 4, Nat.zero_le _, rfl, by omega, rfl, rfl, rfl⟩ ?_
  rintro m l h' ⟨i, n, hi, hn, hn2, rfl, rfl, rfl⟩ K5 hK5
  refine V_seq (fun K6 hK6 => ?_)
  refine V_sr T.mix (by kernel_rfl) (fun K7 hK7 => ?_)
  refine S_mv rfl ?_
  refine S_mv rfl ?_
  refine S_lenl T.el37 rfl ?_
  refine S_bin rfl rfl rfl ?_
  refine S_nil (hK7 _ _ (V_keep [0, 3, 4, 8] (by simp only [proj, lk, reduceIte, Nat.reduceEqDiff]; rfl) ?_)); clear hK7
  refine V_condp rfl (fun c253 => ?_) (fun c253 => ?_)
  · skip
    obtain ⟨b1, rfl, _, _, hpc⟩ := ev.get (i := i) (by omega)
    have p0 := (hpc i (by omega)).1
    have p1 := (hpc i (by omega)).2
    have hqi := hq _ (ga_mem (E := Q) (i := i) (by omega))
    refine V_skipk [0, 3, 4] (by simp only [proj, lk, reduceIte, Nat.reduceEqDiff]; rfl) ?_
    refine hK6 _ _ ?_; clear hK6
    refine V_seq (fun K8 hK8 => ?_)
    refine V_block ?_
    refine V_reg T.mix (by kernel_rfl) ?_
    refine S_mv rfl ?_
    refine S_mv rfl ?_
    refine S_mv rfl ?_
    refine S_ix T.el37 rfl rfl (by omega) (by omega) ?_
    rw [Nat.zero_add, Int.toNat_natCast]
    first | refine S_fa0 T.f104_0 rfl ?_ | refine S_fa T.f104_0 rfl ?_
    refine S_ldK T.ag9 rfl (fun K' hK' => ?_)
    simp (disch := omega) only [p0, p1, oP_some, Nat.add_zero]
    refine hK' _ ?_; clear hK' K'
    refine S_lens T.kd9 rfl ?_
    refine S_addN (n + (ga Q i).1.size) rfl rfl (by omega) (by omega) ?_
    refine S_mv rfl ?_
    refine S_mv rfl ?_
    refine S_ix T.el37 rfl rfl (by omega) (by omega) ?_
    rw [Nat.zero_add, Int.toNat_natCast]
    first | refine S_fa0 T.f104_1 rfl ?_ | refine S_fa T.f104_1 rfl ?_
    refine S_ldK T.ag9 rfl (fun K' hK' => ?_)
    simp (disch := omega) only [p0, p1, oP_some, Nat.add_zero]
    refine hK' _ ?_; clear hK' K'
    refine S_lens T.kd9 rfl ?_
    refine S_addN (n + (ga Q i).1.size + (ga Q i).2.size) rfl rfl (by omega) (by omega) ?_
    refine S_addN (n + (ga Q i).1.size + (ga Q i).2.size + 12) rfl rfl (by omega) (by omega) ?_
    refine S_as rfl ?_
    refine S_nilk [0, 3, 4] (by simp only [proj, lk, reduceIte, Nat.reduceEqDiff]; rfl) ?_
    refine hK8 _ _ ?_; clear hK8
    refine V_reg T.mix (by kernel_rfl) ?_
    refine S_mv rfl ?_
    refine S_addN (i + 1) rfl rfl (by omega) (by omega) ?_
    refine S_as rfl ?_
    refine S_nilk [0, 3, 4] (by simp only [proj, lk, reduceIte, Nat.reduceEqDiff]; rfl) ?_
    exact hK5 _ _ ⟨_, by omega, i + 1, _, by omega, by rw [dear_take (by omega), hn], by omega, rfl, rfl, rfl⟩
  · skip
    refine V_exitk [3] rfl (by simp only [proj, lk, reduceIte, Nat.reduceEqDiff]; rfl) ?_
    refine hK3 _ _ ?_; clear hK3
    refine V_sr T.mix (by kernel_rfl) (fun K9 hK9 => ?_)
    refine S_mv rfl ?_
    refine S_as rfl ?_
    refine S_nil (hK9 _ _ (V_keep [2] (by simp only [proj, lk, reduceIte, Nat.reduceEqDiff]; rfl) ?_)); clear hK9
    refine V_ret ?_
    refine hR _ _ (ret1 rfl rfl ?_)
    exact ⟨by rw [hn, show i = Q.length by omega, List.take_length], rfl⟩
set_option maxHeartbeats 800000 in
theorem period_spec (h : Heap) (u : ByteArray) (hu : u.size ≤ 256) :
    FC Tryz.prog 77 (#[.string u] : Array Value) h fun v h' => ∃ p : Nat, v = .int .i64 (p : Int) ∧ (p = 0 ∨ (1 ≤ p ∧ p ≤ 16 ∧ Pd u p)) ∧ h = h' := by
  refine FC_of [(0, .string u)] Tryz.func77 rfl Tryz.ntmps77 (by simp) rfl (fun R hR => ?_)
  refine V_sr T.mix (by kernel_rfl) (fun K1 hK1 => ?_)
  refine S_as rfl ?_
  refine S_nil (hK1 _ _ (V_keep [0] (by simp only [proj, lk, reduceIte, Nat.reduceEqDiff]; rfl) ?_)); clear hK1
  refine V_seq (fun K2 hK2 => ?_)
  refine V_sr T.mix (by kernel_rfl) (fun K3 hK3 => ?_)
  refine S_as rfl ?_
  refine S_nil (hK3 _ _ (V_keep [0, 3] (by simp only [proj, lk, reduceIte, Nat.reduceEqDiff]; rfl) ?_)); clear hK3
  refine V_block ?_
  refine V_loop (fun m l h' => ∃ (p : Nat), (1 ≤ p) ∧ (p ≤ 17) ∧ m = 17 - p ∧ l = [(0, .string u), (3, .int .i64 (p : Int))] ∧ h = h') _ ⟨1, by omega, by omega, rfl, rfl, rfl⟩ ?_
  rintro m l h' ⟨p, hp, hp2, rfl, rfl, rfl⟩ K4 hK4
  refine V_seq (fun K5 hK5 => ?_)
  refine V_sr T.mix (by kernel_rfl) (fun K6 hK6 => ?_)
  refine S_mv rfl ?_
  refine S_bin rfl rfl rfl ?_
  refine S_nil (hK6 _ _ (V_keep [0, 3, 6] (by simp only [proj, lk, reduceIte, Nat.reduceEqDiff]; rfl) ?_)); clear hK6
  refine V_condp rfl (fun c261 => ?_) (fun c261 => ?_)
  · skip
    refine V_skipk [0, 3] (by simp only [proj, lk, reduceIte, Nat.reduceEqDiff]; rfl) ?_
    refine hK5 _ _ ?_; clear hK5
    refine V_seq (fun K7 hK7 => ?_)
    refine V_block ?_
    refine V_sr T.mix (by kernel_rfl) (fun K8 hK8 => ?_)
    refine S_mv rfl ?_
    refine S_as rfl ?_
    refine S_nil (hK8 _ _ (V_keep [0, 3, 4] (by simp only [proj, lk, reduceIte, Nat.reduceEqDiff]; rfl) ?_)); clear hK8
    refine V_seq (fun K9 hK9 => ?_)
    refine V_block ?_
    refine V_loop (fun m l h' => ∃ (i : Nat), (p ≤ i) ∧ (i ≤ 300) ∧ (∀ j, p ≤ j → j < i → bAt u j = bAt u (j - p)) ∧ m = u.size - i ∧ l = [(0, .string u), (3, .int .i64 (p : Int)), (4, .int .i64 (i : Int))] ∧ h = h') _ ⟨p, Nat.le_refl _, by omega, fun j h1 h2 => by omega, rfl, rfl, rfl⟩ ?_
    rintro m l h' ⟨i, hi, hi2, hall, rfl, rfl, rfl⟩ K10 hK10
    refine V_seq (fun K11 hK11 => ?_)
    refine V_sr T.mix (by kernel_rfl) (fun K12 hK12 => ?_)
    refine S_cut (K' := fun l h' => ∃ b : Bool, (b = true ↔ (i < u.size ∧ bAt u i = bAt u (i - p))) ∧ l = [(0, .string u), (3, .int .i64 (p : Int)), (4, .int .i64 (i : Int)), (24, .bool b)] ∧ h = h') ?_ ?_
    · skip
      refine S_mv rfl ?_
      refine S_mv rfl ?_
      refine S_lens T.kd9 rfl ?_
      refine S_bin rfl rfl rfl ?_
      refine S_mv rfl ?_
      refine S_dec (fun g263 => ?_) (fun g263 => ?_)
      · skip
        refine S_gt rfl ?_
        refine S_mv rfl ?_
        refine S_gt rfl ?_
        refine S_mv rfl ?_
        refine S_gt rfl ?_
        refine S_siN i T.kd9 rfl rfl rfl (by omega) ?_
        refine S_gt rfl ?_
        refine S_mv rfl ?_
        refine S_gt rfl ?_
        refine S_mv rfl ?_
        refine S_gt rfl ?_
        refine S_mv rfl ?_
        refine S_gt rfl ?_
        refine S_subN (i - p) rfl rfl (by omega) (by omega) ?_
        refine S_gt rfl ?_
        refine S_siN (i - p) T.kd9 rfl rfl rfl (by omega) ?_
        refine S_gt rfl ?_
        refine S_bin rfl rfl rfl ?_
        refine S_pt rfl rfl ?_
        exact S_nilk [0, 3, 4, 24] (by simp only [proj, lk, reduceIte, Nat.reduceEqDiff]; rfl) ⟨_, (by first | (simp [*]; done) | (simp; omega)), rfl, rfl⟩
      · skip
        refine S_gf rfl ?_
        refine S_gf rfl ?_
        refine S_gf rfl ?_
        refine S_gf rfl ?_
        refine S_gf rfl ?_
        refine S_gf rfl ?_
        refine S_gf rfl ?_
        refine S_gf rfl ?_
        refine S_gf rfl ?_
        refine S_pf rfl rfl ?_
        exact S_nilk [0, 3, 4, 24] (by simp only [proj, lk, reduceIte, Nat.reduceEqDiff]; rfl) ⟨_, (by first | (simp [*]; done) | (simp; omega)), rfl, rfl⟩
    rintro l h' ⟨b, hb263, rfl, rfl⟩
    refine hK12 _ _ ?_; clear hK12
    refine V_condb rfl (fun c263 => ?_) (fun c263 => ?_)
    · replace c263 := hb263.1 c263
      refine V_skipk [0, 3, 4] (by simp only [proj, lk, reduceIte, Nat.reduceEqDiff]; rfl) ?_
      refine hK11 _ _ ?_; clear hK11
      refine V_block ?_
      refine V_reg T.mix (by kernel_rfl) ?_
      refine S_mv rfl ?_
      refine S_addN (i + 1) rfl rfl (by omega) (by omega) ?_
      refine S_as rfl ?_
      refine S_nilk [0, 3, 4] (by simp only [proj, lk, reduceIte, Nat.reduceEqDiff]; rfl) ?_
      exact hK10 _ _ ⟨_, by omega, i + 1, by omega, by omega, fun j h1 h2 => by by_cases e : j = i; (rw [e]; exact c263.2); (exact hall j h1 (by omega)), rfl, rfl, rfl⟩
    · replace c263 : ¬ _ := fun hp => Bool.false_ne_true (c263.symm.trans (hb263.2 hp))
      refine V_exitk [0, 3, 4] rfl (by simp only [proj, lk, reduceIte, Nat.reduceEqDiff]; rfl) ?_
      refine hK9 _ _ ?_; clear hK9
      refine V_sr T.mix (by kernel_rfl) (fun K14 hK14 => ?_)
      refine S_mv rfl ?_
      refine S_mv rfl ?_
      refine S_lens T.kd9 rfl ?_
      refine S_bin rfl rfl rfl ?_
      refine S_nil (hK14 _ _ (V_keep [0, 3, 30] (by simp only [proj, lk, reduceIte, Nat.reduceEqDiff]; rfl) ?_)); clear hK14
      refine V_condp rfl (fun c266 => ?_) (fun c266 => ?_)
      · skip
        refine V_sr T.mix (by kernel_rfl) (fun K15 hK15 => ?_)
        refine S_mv rfl ?_
        refine S_as rfl ?_
        refine S_nil (hK15 _ _ (V_keep [2] (by simp only [proj, lk, reduceIte, Nat.reduceEqDiff]; rfl) ?_)); clear hK15
        refine V_ret ?_
        refine hR _ _ (ret1 rfl rfl ?_)
        exact ⟨p, rfl, .inr ⟨by omega, by omega, fun j h1 h2 => hall j h1 (by omega)⟩, rfl⟩
      · skip
        refine V_skipk [0, 3] (by simp only [proj, lk, reduceIte, Nat.reduceEqDiff]; rfl) ?_
        refine hK7 _ _ ?_; clear hK7
        refine V_reg T.mix (by kernel_rfl) ?_
        refine S_mv rfl ?_
        refine S_addN (p + 1) rfl rfl (by omega) (by omega) ?_
        refine S_as rfl ?_
        refine S_nilk [0, 3] (by simp only [proj, lk, reduceIte, Nat.reduceEqDiff]; rfl) ?_
        exact hK4 _ _ ⟨_, by omega, p + 1, by omega, by omega, rfl, rfl, rfl⟩
  · skip
    refine V_exitk [] rfl (by simp only [proj, lk, reduceIte, Nat.reduceEqDiff]; rfl) ?_
    refine hK2 _ _ ?_; clear hK2
    refine V_sr T.mix (by kernel_rfl) (fun K16 hK16 => ?_)
    refine S_as rfl ?_
    refine S_nil (hK16 _ _ (V_keep [2] (by simp only [proj, lk, reduceIte, Nat.reduceEqDiff]; rfl) ?_)); clear hK16
    refine V_ret ?_
    refine hR _ _ (ret1 rfl rfl ?_)
    exact ⟨0, rfl, .inl rfl, rfl⟩
set_option maxHeartbeats 800000 in
theorem work_spec (h : Heap) (u : ByteArray) (hu : u.size ≤ 256) (level : Int) (sz : Nat) (hsz : level ≠ 0 → ∀ p, Pd u p → 1 ≤ p → p ≤ 16 → (p = 1 → sz ≤ 8 + u.size / 5) ∧ sz ≤ 10 + 2 * p + u.size / 5) (hs9 : sz ≤ 1000) :
    FC Tryz.prog 61 (#[.string u, .int .i64 level, .int .i64 (sz : Int)] : Array Value) h fun v h' => v = .bool true ∧ h = h' := by
  refine FC_of [(0, .string u), (1, .int .i64 level), (2, .int .i64 (sz : Int))] Tryz.func61 rfl Tryz.ntmps61 (by simp) rfl (fun R hR => ?_)
  refine V_sr T.mix (by kernel_rfl) (fun K1 hK1 => ?_)
  refine S_as rfl ?_
  refine S_nil (hK1 _ _ (V_keep [0, 1, 2] (by simp only [proj, lk, reduceIte, Nat.reduceEqDiff]; rfl) ?_)); clear hK1
  refine V_sr T.mix (by kernel_rfl) (fun K2 hK2 => ?_)
  refine S_mv rfl ?_
  refine S_call T.hb77 rfl ?_
  refine FC.mono (period_spec h u hu) ?_
  rintro v' h' ⟨p, rfl, hp, rfl⟩
  refine S_as rfl ?_
  refine S_nil (hK2 _ _ (V_keep [0, 1, 2, 7] (by simp only [proj, lk, reduceIte, Nat.reduceEqDiff]; rfl) ?_)); clear hK2
  refine V_seq (fun K3 hK3 => ?_)
  refine V_sr T.mix (by kernel_rfl) (fun K4 hK4 => ?_)
  refine S_mv rfl ?_
  refine S_bin rfl rfl rfl ?_
  refine S_mv rfl ?_
  refine S_dec (fun g276 => ?_) (fun g276 => ?_)
  · skip
    refine S_gf rfl ?_
    refine S_gf rfl ?_
    refine S_pt rfl rfl ?_
    refine S_nil (hK4 _ _ (V_keep [0, 2, 7, 15] (by simp only [proj, lk, reduceIte, Nat.reduceEqDiff]; rfl) ?_)); clear hK4
    refine V_condt rfl ?_
    refine V_sr T.mix (by kernel_rfl) (fun K5 hK5 => ?_)
    refine S_as rfl ?_
    refine S_nil (hK5 _ _ (V_keep [6] (by simp only [proj, lk, reduceIte, Nat.reduceEqDiff]; rfl) ?_)); clear hK5
    refine V_ret ?_
    refine hR _ _ (ret1 rfl rfl ?_)
    exact ⟨rfl, rfl⟩
  · skip
    refine S_gt rfl ?_
    refine S_mv rfl ?_
    refine S_gt rfl ?_
    refine S_bin rfl rfl rfl ?_
    refine S_pf rfl rfl ?_
    refine S_nil (hK4 _ _ (V_keep [0, 2, 7, 15] (by simp only [proj, lk, reduceIte, Nat.reduceEqDiff]; rfl) ?_)); clear hK4
    refine V_condp rfl (fun c276 => ?_) (fun c276 => ?_)
    · skip
      refine V_sr T.mix (by kernel_rfl) (fun K6 hK6 => ?_)
      refine S_as rfl ?_
      refine S_nil (hK6 _ _ (V_keep [6] (by simp only [proj, lk, reduceIte, Nat.reduceEqDiff]; rfl) ?_)); clear hK6
      refine V_ret ?_
      refine hR _ _ (ret1 rfl rfl ?_)
      exact ⟨rfl, rfl⟩
    · skip
      refine V_skipk [0, 2, 7] (by simp only [proj, lk, reduceIte, Nat.reduceEqDiff]; rfl) ?_
      refine hK3 _ _ ?_; clear hK3
      refine V_seq (fun K7 hK7 => ?_)
      refine V_sr T.mix (by kernel_rfl) (fun K8 hK8 => ?_)
      refine S_mv rfl ?_
      refine S_bin rfl rfl rfl ?_
      refine S_mv rfl ?_
      refine S_dec (fun g279 => ?_) (fun g279 => ?_)
      · skip
        refine S_gt rfl ?_
        refine S_mv rfl ?_
        refine S_gt rfl ?_
        refine S_mv rfl ?_
        refine S_gt rfl ?_
        refine S_lens T.kd9 rfl ?_
        refine S_gt rfl ?_
        refine S_quo rfl rfl (by omega) (by omega) (by omega) ?_
        refine S_gt rfl ?_
        first | refine S_add rfl rfl (by omega) (by omega) ?_ | refine S_bin rfl rfl rfl ?_
        refine S_gt rfl ?_
        refine S_bin rfl rfl rfl ?_
        refine S_pt rfl rfl ?_
        refine S_nil (hK8 _ _ (V_keep [0, 2, 7, 25] (by simp only [proj, lk, reduceIte, Nat.reduceEqDiff]; rfl) ?_)); clear hK8
        refine V_condp rfl (fun c279 => ?_) (fun c279 => ?_)
        · skip
          exfalso; obtain ⟨q1, q2, q3⟩ : 1 ≤ p ∧ p ≤ 16 ∧ Pd u p := (by rcases hp with q | q; (omega); (exact q)); have hq := hsz (by omega) p q3 q1 q2; omega
        · skip
          refine V_skipk [0, 2, 7] (by simp only [proj, lk, reduceIte, Nat.reduceEqDiff]; rfl) ?_
          refine hK7 _ _ ?_; clear hK7
          refine V_sr T.mix (by kernel_rfl) (fun K9 hK9 => ?_)
          refine S_mv rfl ?_
          refine S_mv rfl ?_
          first | refine S_mul rfl rfl (by omega) (by omega) ?_ | refine S_bin rfl rfl rfl ?_
          first | refine S_add rfl rfl (by omega) (by omega) ?_ | refine S_bin rfl rfl rfl ?_
          refine S_mv rfl ?_
          refine S_lens T.kd9 rfl ?_
          refine S_quo rfl rfl (by omega) (by omega) (by omega) ?_
          first | refine S_add rfl rfl (by omega) (by omega) ?_ | refine S_bin rfl rfl rfl ?_
          refine S_bin rfl rfl rfl ?_
          refine S_as rfl ?_
          refine S_nil (hK9 _ _ (V_keep [6] (by simp only [proj, lk, reduceIte, Nat.reduceEqDiff]; rfl) ?_)); clear hK9
          refine V_ret ?_
          refine hR _ _ (ret1 rfl rfl ?_)
          obtain ⟨q1, q2, q3⟩ : 1 ≤ p ∧ p ≤ 16 ∧ Pd u p := by rcases hp with q | q; (omega); (exact q)
          have hq := hsz (by omega) p q3 q1 q2
          exact ⟨by congr 1; rw [decide_eq_true_eq]; omega, rfl⟩
      · skip
        refine S_gf rfl ?_
        refine S_gf rfl ?_
        refine S_gf rfl ?_
        refine S_gf rfl ?_
        refine S_gf rfl ?_
        refine S_gf rfl ?_
        refine S_pf rfl rfl ?_
        refine S_nil (hK8 _ _ (V_keep [0, 2, 7, 25] (by simp only [proj, lk, reduceIte, Nat.reduceEqDiff]; rfl) ?_)); clear hK8
        refine V_condf rfl ?_
        refine V_skipk [0, 2, 7] (by simp only [proj, lk, reduceIte, Nat.reduceEqDiff]; rfl) ?_
        refine hK7 _ _ ?_; clear hK7
        refine V_sr T.mix (by kernel_rfl) (fun K10 hK10 => ?_)
        refine S_mv rfl ?_
        refine S_mv rfl ?_
        first | refine S_mul rfl rfl (by omega) (by omega) ?_ | refine S_bin rfl rfl rfl ?_
        first | refine S_add rfl rfl (by omega) (by omega) ?_ | refine S_bin rfl rfl rfl ?_
        refine S_mv rfl ?_
        refine S_lens T.kd9 rfl ?_
        refine S_quo rfl rfl (by omega) (by omega) (by omega) ?_
        first | refine S_add rfl rfl (by omega) (by omega) ?_ | refine S_bin rfl rfl rfl ?_
        refine S_bin rfl rfl rfl ?_
        refine S_as rfl ?_
        refine S_nil (hK10 _ _ (V_keep [6] (by simp only [proj, lk, reduceIte, Nat.reduceEqDiff]; rfl) ?_)); clear hK10
        refine V_ret ?_
        refine hR _ _ (ret1 rfl rfl ?_)
        obtain ⟨q1, q2, q3⟩ : 1 ≤ p ∧ p ≤ 16 ∧ Pd u p := by rcases hp with q | q; (omega); (exact q)
        have hq := hsz (by omega) p q3 q1 q2
        exact ⟨by congr 1; rw [decide_eq_true_eq]; omega, rfl⟩
set_option maxHeartbeats 400000 in
theorem lengthen_spec (r s : ByteArray) (h : Heap) (mx : Nat) (hmx : mx ≤ 1200) (hr : r.size ≤ 9223372036854775807) :
    FC Tryz.prog 43 (#[.string r, .string s, .int .i64 (mx : Int)] : Array Value) h fun v h' => (∃ u, v = .string u ∧ u.size ≤ max r.size (mx + 1)) ∧ h = h' := by
  refine FC_of [(0, .string r), (1, .string s), (2, .int .i64 (mx : Int))] Tryz.func43 rfl Tryz.ntmps43 (by simp) rfl (fun R hR => ?_)
  refine V_sr T.mix (by kernel_rfl) (fun K1 hK1 => ?_)
  refine S_as rfl ?_
  refine S_nil (hK1 _ _ (V_keep [0, 1, 2] (by simp only [proj, lk, reduceIte, Nat.reduceEqDiff]; rfl) ?_)); clear hK1
  refine V_sr T.mix (by kernel_rfl) (fun K2 hK2 => ?_)
  refine S_mv rfl ?_
  first | refine S_add rfl rfl (by omega) (by omega) ?_ | refine S_bin rfl rfl rfl ?_
  refine S_mv rfl ?_
  refine S_lens T.kd9 rfl ?_
  first | refine S_sub rfl rfl (by omega) (by omega) ?_ | refine S_bin rfl rfl rfl ?_
  refine S_as rfl ?_
  refine S_nil (hK2 _ _ (V_keep [0, 1, 7] (by simp only [proj, lk, reduceIte, Nat.reduceEqDiff]; rfl) ?_)); clear hK2
  refine V_seq (fun K3 hK3 => ?_)
  refine V_sr T.mix (by kernel_rfl) (fun K4 hK4 => ?_)
  refine S_mv rfl ?_
  refine S_bin rfl rfl rfl ?_
  refine S_nil (hK4 _ _ (V_keep [0, 1, 7, 14] (by simp only [proj, lk, reduceIte, Nat.reduceEqDiff]; rfl) ?_)); clear hK4
  refine V_condp rfl (fun c51 => ?_) (fun c51 => ?_)
  · skip
    refine V_sr T.mix (by kernel_rfl) (fun K5 hK5 => ?_)
    refine S_mv rfl ?_
    refine S_as rfl ?_
    refine S_nil (hK5 _ _ (V_keep [6] (by simp only [proj, lk, reduceIte, Nat.reduceEqDiff]; rfl) ?_)); clear hK5
    refine V_ret ?_
    refine hR _ _ (ret1 rfl rfl ?_)
    exact ⟨⟨_, rfl, by omega⟩, rfl⟩
  · skip
    refine V_skipk [0, 1, 7] (by simp only [proj, lk, reduceIte, Nat.reduceEqDiff]; rfl) ?_
    refine hK3 _ _ ?_; clear hK3
    refine V_seq (fun K6 hK6 => ?_)
    refine V_sr T.mix (by kernel_rfl) (fun K7 hK7 => ?_)
    refine S_mv rfl ?_
    refine S_lens T.kd9 rfl ?_
    refine S_mv rfl ?_
    refine S_bin rfl rfl rfl ?_
    refine S_nil (hK7 _ _ (V_keep [0, 1, 7, 19] (by simp only [proj, lk, reduceIte, Nat.reduceEqDiff]; rfl) ?_)); clear hK7
    refine V_condp rfl (fun c54 => ?_) (fun c54 => ?_)
    · skip
      refine V_reg T.mix (by kernel_rfl) ?_
      refine S_mv rfl ?_
      refine S_mv rfl ?_
      refine S_sl rfl rfl rfl (sliceV_strhi T.kd9 (by omega) (by omega)) ?_
      have hsz : (s.extract 0 ((mx : Int) + 1 - (r.size : Int)).toNat).size ≤ mx + 1 - r.size := by rw [ByteArray.size_extract]; omega
      refine S_as rfl ?_
      refine S_nilk [0, 1] (by simp only [proj, lk, reduceIte, Nat.reduceEqDiff]; rfl) ?_
      refine hK6 _ _ ?_; clear hK6
      refine V_sr T.mix (by kernel_rfl) (fun K8 hK8 => ?_)
      refine S_mv rfl ?_
      refine S_mv rfl ?_
      refine S_bin rfl rfl (strV_add (by omega)) ?_
      refine S_as rfl ?_
      refine S_nil (hK8 _ _ (V_keep [6] (by simp only [proj, lk, reduceIte, Nat.reduceEqDiff]; rfl) ?_)); clear hK8
      refine V_ret ?_
      refine hR _ _ (ret1 rfl rfl ?_)
      exact ⟨⟨_, rfl, by rw [ByteArray.size_append]; omega⟩, rfl⟩
    · skip
      refine V_skipk [0, 1] (by simp only [proj, lk, reduceIte, Nat.reduceEqDiff]; rfl) ?_
      refine hK6 _ _ ?_; clear hK6
      refine V_sr T.mix (by kernel_rfl) (fun K9 hK9 => ?_)
      refine S_mv rfl ?_
      refine S_mv rfl ?_
      refine S_bin rfl rfl (strV_add (by omega)) ?_
      refine S_as rfl ?_
      refine S_nil (hK9 _ _ (V_keep [6] (by simp only [proj, lk, reduceIte, Nat.reduceEqDiff]; rfl) ?_)); clear hK9
      refine V_ret ?_
      refine hR _ _ (ret1 rfl rfl ?_)
      exact ⟨⟨_, rfl, by rw [ByteArray.size_append]; omega⟩, rfl⟩
set_option maxHeartbeats 800000 in
theorem set_spec (h : Heap) (u : ByteArray) (i : Nat) (c : Int) (hi : i < u.size) (hu : u.size ≤ 1201) :
    FC Tryz.prog 44 (#[.string u, .int .i64 (i : Int), .int .u8 c] : Array Value) h fun v h' => (∃ u2, v = .string u2 ∧ u2.size ≤ 3000) ∧ Ext (fun _ => False) h h' := by
  refine FC_of [(0, .string u), (1, .int .i64 (i : Int)), (2, .int .u8 c)] Tryz.func44 rfl Tryz.ntmps44 (by simp) rfl (fun R hR => ?_)
  refine V_sr T.mix (by kernel_rfl) (fun K1 hK1 => ?_)
  refine S_as rfl ?_
  refine S_nil (hK1 _ _ (V_keep [0, 1, 2] (by simp only [proj, lk, reduceIte, Nat.reduceEqDiff]; rfl) ?_)); clear hK1
  refine V_sr T.mix (by kernel_rfl) (fun K2 hK2 => ?_)
  refine S_mv rfl ?_
  refine S_mv rfl ?_
  refine S_sl rfl rfl rfl (sliceV_strhi T.kd9 (by omega) (by omega)) ?_
  rw [Int.toNat_natCast]
  have hz1 : (u.extract 0 i).size = i := by rw [ByteArray.size_extract]; omega
  refine S_mv rfl ?_
  refine S_bs T.ei55 rfl (by decide) (by decide) (T.bs55_1_0 _) ?_
  generalize hh : Array.push h _ = h1
  have b1 : B h1 h.size #[.int .u8 c] 5 := by rw [← hh]; exact B.new _ _ _
  have hEh1 : Ext (fun _ => False) h h1 := by rw [← hh]; exact Ext.push _ _ _
  clear hh
  refine S_str (bs := [c]) T.kd55 T.kd9 T.in9 rfl (by simp only [srcV, Nat.mul_one]; exact b1.all rfl) ?_
  refine S_bin rfl rfl (strV_add (by rw [mkS_size]; simp only [List.length_cons, List.length_nil]; omega)) ?_
  refine S_mv rfl ?_
  refine S_mv rfl ?_
  refine S_addN (i + 1) rfl rfl (by omega) (by omega) ?_
  refine S_sl rfl rfl rfl (sliceV_strlo T.kd9 (by omega) (by omega)) ?_
  rw [Int.toNat_natCast]
  have hz2 : (u.extract (i + 1) u.size).size ≤ u.size := by rw [ByteArray.size_extract]; omega
  refine S_bin rfl rfl (strV_add (by rw [ByteArray.size_append, mkS_size]; simp only [List.length_cons, List.length_nil]; omega)) ?_
  refine S_as rfl ?_
  refine S_nil (hK2 _ _ (V_keep [6] (by simp only [proj, lk, reduceIte, Nat.reduceEqDiff]; rfl) ?_)); clear hK2
  refine V_ret ?_
  refine hR _ _ (ret1 rfl rfl ?_)
  exact ⟨⟨_, rfl, by rw [ByteArray.size_append, ByteArray.size_append, mkS_size]; simp only [List.length_cons, List.length_nil]; omega⟩, hEh1⟩
set_option maxHeartbeats 400000 in
theorem shot_spec (h : Heap) (V : SA) (r : SR) (s : TS) (ua ub : HC) (sw : SW h V r s ua ub) (K : Nat) :
    FC Tryz.prog 28 (#[.agg (bel K V.D)] : Array Value) h fun rv h' => rv = .tuple #[.int .i64 ((if r.ph = 9 then 1 else if r.ph = 10 then 2 else 0 : Nat) : Int), .int .i64 (r.tt : Int), .int .i64 (r.fed : Int)] ∧ Ext (fun _ => False) h h' := by
  refine FC_of [(0, .agg (bel K V.D))] Tryz.func28 rfl Tryz.ntmps28 (by simp) rfl (fun R hR => ?_)
  refine V_sr T.mix (by kernel_rfl) (fun K1 hK1 => ?_)
  refine S_boxA rfl ?_
  generalize hh : Array.push h _ = h1
  have b1 : B h1 h.size (bel K V.D) 30 := by rw [← hh]; exact B.new _ _ _
  have hEh1 : Ext (fun _ => False) h h1 := by rw [← hh]; exact Ext.push _ _ _
  clear hh
  have sw1 := sw.new hEh1
  have k1 : cellH h1 ⟨h.size, 1, none⟩ = some (.pointer (some ⟨V.D, 0, none⟩)) := b1.cell 1
  refine S_as rfl ?_
  refine S_as rfl ?_
  refine S_as rfl ?_
  refine S_nil (hK1 _ _ (V_keep [1] (by simp only [proj, lk, reduceIte, Nat.reduceEqDiff]; rfl) ?_)); clear hK1
  refine V_sr T.mix (by kernel_rfl) (fun K2 hK2 => ?_)
  first | refine S_fa0 T.f30_1 rfl ?_ | refine S_fa T.f30_1 rfl ?_
  refine S_ldK T.ag28 rfl (fun K' hK' => ?_)
  simp (disch := omega) only [k1, oP_some, Nat.add_zero]
  refine hK' _ ?_; clear hK' K'
  refine S_call T.hb46 rfl ?_
  refine FC.mono (sstate_spec h1 V r s ua ub sw1) ?_
  rintro v' h' ⟨rfl, rfl⟩
  refine S_as rfl ?_
  refine S_nil (hK2 _ _ (V_keep [1, 5] (by simp only [proj, lk, reduceIte, Nat.reduceEqDiff]; rfl) ?_)); clear hK2
  refine V_sr T.mix (by kernel_rfl) (fun K3 hK3 => ?_)
  first | refine S_fa0 T.f30_1 rfl ?_ | refine S_fa T.f30_1 rfl ?_
  refine S_ldK T.ag28 rfl (fun K' hK' => ?_)
  simp (disch := omega) only [k1, oP_some, Nat.add_zero]
  refine hK' _ ?_; clear hK' K'
  refine S_call T.hb47 rfl ?_
  refine FC.mono (stotal_spec h1 V r s ua ub sw1) ?_
  rintro v' h' ⟨rfl, rfl⟩
  refine S_as rfl ?_
  refine S_nil (hK3 _ _ (V_keep [1, 5, 6] (by simp only [proj, lk, reduceIte, Nat.reduceEqDiff]; rfl) ?_)); clear hK3
  refine V_sr T.mix (by kernel_rfl) (fun K4 hK4 => ?_)
  first | refine S_fa0 T.f30_1 rfl ?_ | refine S_fa T.f30_1 rfl ?_
  refine S_ldK T.ag28 rfl (fun K' hK' => ?_)
  simp (disch := omega) only [k1, oP_some, Nat.add_zero]
  refine hK' _ ?_; clear hK' K'
  refine S_call T.hb48 rfl ?_
  refine FC.mono (sfed_spec h1 V r s ua ub sw1) ?_
  rintro v' h' ⟨rfl, rfl⟩
  refine S_as rfl ?_
  refine S_nil (hK4 _ _ (V_keep [5, 6, 7] (by simp only [proj, lk, reduceIte, Nat.reduceEqDiff]; rfl) ?_)); clear hK4
  refine V_sr T.mix (by kernel_rfl) (fun K5 hK5 => ?_)
  refine S_mv rfl ?_
  refine S_mv rfl ?_
  refine S_mv rfl ?_
  refine S_as rfl ?_
  refine S_as rfl ?_
  refine S_as rfl ?_
  refine S_nil (hK5 _ _ (V_keep [2, 3, 4] (by simp only [proj, lk, reduceIte, Nat.reduceEqDiff]; rfl) ?_)); clear hK5
  refine V_ret ?_
  refine hR _ _ (ret3 rfl rfl rfl rfl ?_)
  exact ⟨rfl, hEh1⟩
set_option maxHeartbeats 400000 in
theorem still_spec (h : Heap) (V : SA) (r : SR) (s : TS) (ua ub : HC) (sw : SW h V r s ua ub) (K : Nat) (sn : Nat) (esn : sn = (if r.ph = 9 then 1 else if r.ph = 10 then 2 else 0 : Nat)) :
    FC Tryz.prog 30 (#[.agg (bel K V.D), .int .i64 (sn : Int), .int .i64 (r.tt : Int), .int .i64 (r.fed : Int)] : Array Value) h fun rv h' => rv = .bool true ∧ Ext (fun _ => False) h h' := by
  refine FC_of [(0, .agg (bel K V.D)), (1, .int .i64 (sn : Int)), (2, .int .i64 (r.tt : Int)), (3, .int .i64 (r.fed : Int))] Tryz.func30 rfl Tryz.ntmps30 (by simp) rfl (fun R hR => ?_)
  refine V_sr T.mix (by kernel_rfl) (fun K1 hK1 => ?_)
  refine S_boxA rfl ?_
  generalize hh : Array.push h _ = h1
  have b1 : B h1 h.size (bel K V.D) 30 := by rw [← hh]; exact B.new _ _ _
  have hEh1 : Ext (fun _ => False) h h1 := by rw [← hh]; exact Ext.push _ _ _
  clear hh
  have sw1 := sw.new hEh1
  refine S_as rfl ?_
  refine S_nil (hK1 _ _ (V_keep [1, 2, 3, 4] (by simp only [proj, lk, reduceIte, Nat.reduceEqDiff]; rfl) ?_)); clear hK1
  refine V_sr T.mix (by kernel_rfl) (fun K2 hK2 => ?_)
  refine S_ldn T.ag30 rfl (b1.all rfl) ?_
  refine S_call T.hb28 rfl ?_
  have hsh := shot_spec h1 V r s ua ub sw1 K
  rw [← esn] at hsh
  refine FC.mono hsh ?_
  rintro v' h2 ⟨rfl, hE2⟩
  refine S_mv rfl ?_
  refine S_ex rfl rfl ?_
  refine S_ex rfl rfl ?_
  refine S_ex rfl rfl ?_
  refine S_as rfl ?_
  refine S_as rfl ?_
  refine S_as rfl ?_
  refine S_nil (hK2 _ _ (V_keep [1, 2, 3, 9, 10, 11] (by simp only [proj, lk, reduceIte, Nat.reduceEqDiff]; rfl) ?_)); clear hK2
  refine V_sr T.mix (by kernel_rfl) (fun K3 hK3 => ?_)
  refine S_mv rfl ?_
  refine S_mv rfl ?_
  refine S_bin rfl rfl rfl ?_
  refine S_mv rfl ?_
  refine S_dec (fun g320 => ?_) (fun g320 => ?_)
  · skip
    refine S_gt rfl ?_
    refine S_mv rfl ?_
    refine S_gt rfl ?_
    refine S_mv rfl ?_
    refine S_gt rfl ?_
    refine S_bin rfl rfl rfl ?_
    refine S_pt rfl rfl ?_
    refine S_mv rfl ?_
    refine S_dec (fun g320a => ?_) (fun g320a => ?_)
    · skip
      refine S_gt rfl ?_
      refine S_mv rfl ?_
      refine S_gt rfl ?_
      refine S_mv rfl ?_
      refine S_gt rfl ?_
      refine S_bin rfl rfl rfl ?_
      refine S_pt rfl rfl ?_
      refine S_as rfl ?_
      refine S_nil (hK3 _ _ (V_keep [8] (by simp only [proj, lk, reduceIte, Nat.reduceEqDiff]; rfl) ?_)); clear hK3
      refine V_ret ?_
      refine hR _ _ (ret1 rfl rfl ?_)
      exact ⟨by simp, hEh1.trans hE2⟩
    · skip
      exact absurd rfl g320a
  · skip
    exact absurd rfl g320
set_option maxHeartbeats 400000 in
theorem ahanded_spec (h : Heap) (V : SA) (st : Nat) (out : List Int) (ds : DS h V st out) (K : Nat) (lo : Nat) (a : Option Addr) (c : Nat) (Q : List En) (ev : EV lo h a Q) (hst : 0 < Q.length → st = 1 ∧ mkS out = (ga Q (Q.length - 1)).2) (hQ : Q.length ≤ 9) :
    FC Tryz.prog 42 (#[.agg (bel K V.D), .slice a Q.length c] : Array Value) h fun rv h' => rv = .bool true ∧ Ext (fun _ => False) h h' := by
  obtain ⟨rw_, r, s, ua, ub, sw, q⟩ := ds
  refine FC_of [(0, .agg (bel K V.D)), (1, .slice a Q.length c)] Tryz.func42 rfl Tryz.ntmps42 (by simp) rfl (fun R hR => ?_)
  refine V_sr T.mix (by kernel_rfl) (fun K1 hK1 => ?_)
  refine S_boxA rfl ?_
  generalize hh : Array.push h _ = h1
  have b1 : B h1 h.size (bel K V.D) 30 := by rw [← hh]; exact B.new _ _ _
  have hEh1 : Ext (fun _ => False) h h1 := by rw [← hh]; exact Ext.push _ _ _
  clear hh
  have sw1 := sw.new hEh1
  have ev1 := ev.new hEh1
  have k1 : cellH h1 ⟨h.size, 1, none⟩ = some (.pointer (some ⟨V.D, 0, none⟩)) := b1.cell 1
  refine S_as rfl ?_
  refine S_nil (hK1 _ _ (V_keep [1, 2] (by simp only [proj, lk, reduceIte, Nat.reduceEqDiff]; rfl) ?_)); clear hK1
  refine V_seq (fun K2 hK2 => ?_)
  refine V_sr T.mix (by kernel_rfl) (fun K3 hK3 => ?_)
  refine S_mv rfl ?_
  refine S_lenl T.el37 rfl ?_
  refine S_bin rfl rfl rfl ?_
  refine S_nil (hK3 _ _ (V_keep [1, 2, 7] (by simp only [proj, lk, reduceIte, Nat.reduceEqDiff]; rfl) ?_)); clear hK3
  refine V_condp rfl (fun c377 => ?_) (fun c377 => ?_)
  · skip
    refine V_sr T.mix (by kernel_rfl) (fun K4 hK4 => ?_)
    refine S_as rfl ?_
    refine S_nil (hK4 _ _ (V_keep [4] (by simp only [proj, lk, reduceIte, Nat.reduceEqDiff]; rfl) ?_)); clear hK4
    refine V_ret ?_
    refine hR _ _ (ret1 rfl rfl ?_)
    exact ⟨rfl, hEh1⟩
  · skip
    obtain ⟨hs1, hs2⟩ := hst (by omega)
    obtain ⟨b2, rfl, _, _, hc2⟩ := ev1.get (i := Q.length - 1) (by omega)
    have p1 := (hc2 (Q.length - 1) (by omega)).2
    obtain ⟨_, w9⟩ := q.w
    have htt := w9.si.tt
    have hms := mkS_size out
    rw [hs2] at hms
    refine V_skipk [1, 2] (by simp only [proj, lk, reduceIte, Nat.reduceEqDiff]; rfl) ?_
    refine hK2 _ _ ?_; clear hK2
    refine V_seq (fun K5 hK5 => ?_)
    refine V_sr T.mix (by kernel_rfl) (fun K6 hK6 => ?_)
    first | refine S_fa0 T.f30_1 rfl ?_ | refine S_fa T.f30_1 rfl ?_
    refine S_ldK T.ag28 rfl (fun K' hK' => ?_)
    simp (disch := omega) only [k1, oP_some, Nat.add_zero]
    refine hK' _ ?_; clear hK' K'
    refine S_call T.hb46 rfl ?_
    have hp9 := q.ph
    have hss := sstate_spec h1 V r s ua ub sw1
    rw [if_pos (by omega)] at hss
    refine FC.mono hss ?_
    rintro v' h' ⟨rfl, rfl⟩
    refine S_bin rfl rfl rfl ?_
    refine S_nil (hK6 _ _ (V_keep [1, 2, 11] (by simp only [proj, lk, reduceIte, Nat.reduceEqDiff]; rfl) ?_)); clear hK6
    refine V_condp rfl (fun c380 => ?_) (fun c380 => ?_)
    · skip
      exact absurd rfl c380
    · skip
      refine V_skipk [1, 2] (by simp only [proj, lk, reduceIte, Nat.reduceEqDiff]; rfl) ?_
      refine hK5 _ _ ?_; clear hK5
      refine V_srM #[0, 1, 10, 2, 3, 4, 5, 6, 7, 8, 9, 11, 12] [0, 1, 3, 4, 5, 6, 7, 8, 9, 10] 2 [11, 12] T.mix (by kernel_rfl) rfl ⟨rfl, rfl⟩ (fun K7 hK7 => ?_)
      first | refine S_fa0 T.f30_1 rfl ?_ | refine S_fa T.f30_1 rfl ?_
      refine S_ldK T.ag28 rfl (fun K' hK' => ?_)
      simp (disch := omega) only [k1, p1, oP_some, Nat.add_zero]
      refine hK' _ ?_; clear hK' K'
      refine S_mv rfl ?_
      refine S_mv rfl ?_
      refine S_lenl T.el37 rfl ?_
      refine S_subN (Q.length - 1) rfl rfl (by omega) (by omega) ?_
      refine S_ix T.el37 rfl rfl (by omega) (by omega) ?_
      rw [Nat.zero_add, Int.toNat_natCast]
      first | refine S_fa0 T.f104_1 rfl ?_ | refine S_fa T.f104_1 rfl ?_
      refine S_ldK T.ag9 rfl (fun K' hK' => ?_)
      simp (disch := omega) only [k1, p1, oP_some, Nat.add_zero]
      refine hK' _ ?_; clear hK' K'
      refine S_lens T.kd9 rfl ?_
      refine S_nil ?_
      refine SM_call T.hb47 rfl ?_
      refine FC.mono (stotal_spec h1 V r s ua ub sw1) ?_
      rintro v' h' ⟨rfl, rfl⟩
      first | refine ⟨Grows.refl _, ?_⟩ | refine ⟨Grows.of_ext (by assumption), ?_⟩
      refine S_bin rfl rfl rfl ?_
      refine S_as rfl ?_
      refine S_nil (hK7 _ _ (V_keep [4] (by simp only [proj, lk, reduceIte, Nat.reduceEqDiff]; rfl) ?_)); clear hK7
      refine V_ret ?_
      refine hR _ _ (ret1 rfl rfl ?_)
      exact ⟨by rw [decide_eq_true (by omega)], hEh1⟩
end Go.Proofs.Qxb6500404aGreat
