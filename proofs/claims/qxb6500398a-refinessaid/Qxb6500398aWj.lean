import Derived.Test.Qxb6500398aWi
import Derived.Test.Qxb6500398aLf
set_option linter.unusedVariables false
set_option linter.unusedSimpArgs false
namespace Go.Proofs.Qxb6500398a
open Go.Eng Go.Cnf Go.Chk

theorem IL.at {h : Heap} {bb cap : Nat} {xs : List Int} (ho : IL h (some ⟨bb, 0, none⟩) cap xs) {j : Nat} (hj : j < xs.length) : cellH h ⟨bb, j, none⟩ = some (.int .i64 (xs.getD j 0)) := by
  obtain ⟨b2, e, _, hg, _⟩ := ho.get (by omega)
  cases e; exact hg j hj
theorem rq {h : Heap} {k : Nat} {p n x : Int} {d : Bool} {t : TypeId} (hB : B h k #[.int .u16 p, .int .u16 n, .bool d, .int .i64 x] t) : cellH h ⟨k, 0, none⟩ = some (.int .u16 p) ∧ cellH h ⟨k, 1, none⟩ = some (.int .u16 n) ∧ cellH h ⟨k, 2, none⟩ = some (.bool d) ∧ cellH h ⟨k, 3, none⟩ = some (.int .i64 x) ∧ ∀ j, j < 4 → okPut h ⟨k, j, none⟩ = true :=
  ⟨hB.cell 0, hB.cell 1, hB.cell 2, hB.cell 3, fun j hj => hB.ok (by simpa using hj)⟩
theorem mem_at {xs : List Int} {i : Nat} (h : i < xs.length) : xs.getD i 0 ∈ xs := by
  rw [List.getD_eq_getElem?_getD, List.getElem?_eq_getElem h]; exact List.getElem_mem h
theorem full_iff {Q : CK} {sl : Nat → Option (List Int)} (hS : Sl Q sl) : Q.used = 18446744073709551615 ↔ 64 ≤ (rowsS sl 64).length := by
  have hl := rows_len (sl := sl) 64
  constructor
  · intro e
    have := hl.2.1 (fun i hi e2 => by
      have h9 := (hS.no i hi e2).2.2
      rw [e, show 18446744073709551615 = 2 ^ 64 - 1 from rfl, Nat.testBit_two_pow_sub_one] at h9
      simp [hi] at h9)
    omega
  · intro e
    have ha := hl.2.2 (by omega)
    refine Nat.eq_of_testBit_eq fun i => ?_
    rw [show 18446744073709551615 = 2 ^ 64 - 1 from rfl, Nat.testBit_two_pow_sub_one]
    by_cases hi : i < 64
    · cases e2 : sl i with
      | none => exact absurd e2 (ha i hi)
      | some c => rw [(hS.yes i hi c e2).2.2.2]; simp [hi]
    · have : Q.used < 2 ^ i := Nat.lt_of_lt_of_le hS.lt (Nat.pow_le_pow_right (n := 2) (by omega) (show 64 ≤ i by omega))
      rw [Nat.testBit_lt_two_pow this]; simp [hi]
set_option maxHeartbeats 400000 in
theorem read_spec (h : Heap) (a : Option Addr) (cap : Nat) (xs : List Int) (ho : IL h a cap xs) (hl : xs.length ≤ 1099511627776) (pre : List Int) (r : Rw) (post : List Int) (hx : xs = pre ++ oneR r ++ post) (hn : Nrm r.2) :
    FC Try.prog 48 (#[.slice a xs.length cap, .int .i64 (pre.length : Int)] : Array Value) h fun rv h' => rv = .agg #[.int .u16 ((pM r.2 : Nat)), .int .u16 ((nM r.2 : Nat)), .bool r.1, .int .i64 ((pre.length + (oneR r).length : Nat))] ∧ Ext (fun _ => False) h h' := by
  have hln := rd_len pre r post
  have hz := rd_zero pre r post
  have hde := rd_del pre r post hn.1
  rw [← hx] at hln hz hde
  have hlit : ∀ k, k < r.2.length → xs.getD (pre.length + dl r + k) 0 = r.2.getD k 0 := fun k hk => by rw [hx]; exact rd_lit pre r post k hk
  have hol := oneR_len r
  have hdl : dl r = if r.1 then 1 else 0 := rfl
  have hcl := hn.len
  obtain ⟨bb, rfl, hbb, _, _⟩ := ho.get (by omega)
  refine FC_of [(0, .slice (some ⟨bb, 0, none⟩) xs.length cap), (1, .int .i64 (pre.length : Int))] Try.func48 rfl Try.ntmps48 (by simp) rfl (fun R hR => ?_)
  refine V_sr T.mix (by kernel_rfl) (fun K1 hK1 => ?_)
  refine S_allocA T.z101 ?_
  generalize hh : Array.push h _ = hA
  have hRA : B hA h.size #[.int .u16 0, .int .u16 0, .bool false, .int .i64 0] 101 := by rw [← hh]; exact B.new _ _ _
  have hEhA : Ext (fun _ => False) h hA := by rw [← hh]; exact Ext.push _ _ _
  have hshA : hA.size = h.size + 1 := by rw [← hh]; simp
  clear hh
  refine S_nil (hK1 _ _ (V_keep [0, 1, 4] (by simp only [proj, lk, reduceIte, Nat.reduceEqDiff]; rfl) ?_)); clear hK1
  refine V_sr T.mix (by kernel_rfl) (fun K2 hK2 => ?_)
  refine S_bld rfl (T.bld101) ?_
  refine S_allocA T.z101 ?_
  generalize hh : Array.push hA _ = hC
  have hqC : B hC hA.size #[.int .u16 0, .int .u16 0, .bool false, .int .i64 0] 101 := by rw [← hh]; exact B.new _ _ _
  have hEhC : Ext (fun _ => False) hA hC := by rw [← hh]; exact Ext.push _ _ _
  have hshC : hC.size = hA.size + 1 := by rw [← hh]; simp
  clear hh
  try clear q0 q1 q2 q3 hqok
  obtain ⟨q0, q1, q2, q3, hqok⟩ := rq (hqC)
  refine S_stl T.sz101 rfl rfl rfl rfl (fun j hj => by simp (disch := omega) only [hqok]) ?_
  generalize hh : putsH _ _ _ _ = h1
  have hq1 : B h1 (hA.size) #[.int .u16 0, .int .u16 0, .bool false, .int .i64 0] 101 := by rw [← hh]; exact B.puts_all (hqC) (cs' := #[.int .u16 0, .int .u16 0, .bool false, .int .i64 0]) rfl
  have hEh1 : Ext (fun k => k = hA.size) hC h1 := by rw [← hh]; exact Ext.puts (S := fun k => k = hA.size) rfl _ _ _
  clear hh
  try clear q0 q1 q2 q3 hqok
  obtain ⟨q0, q1, q2, q3, hqok⟩ := rq (hq1)
  have hE1 : Ext (fun _ => False) h h1 := (hEhA.trans hEhC).step hEh1 (fun k hk e => by omega)
  have hR1 := (hRA.ext hEhC (fun f => f)).ext hEh1 (fun e => by omega)
  have hI := ho.ext hE1 (fun _ _ f => f)
  refine S_nil (hK2 _ _ (V_keep [0, 1, 4, 5] (by simp only [proj, lk, reduceIte, Nat.reduceEqDiff]; rfl) ?_)); clear hK2
  refine V_seqJ (fun l h' => ∃ (hj : Heap) (i : Nat), (B hj hA.size #[.int .u16 (0), .int .u16 (0), .bool r.1, .int .i64 (0)] 101) ∧ (B hj h.size #[.int .u16 0, .int .u16 0, .bool false, .int .i64 0] 101) ∧ (Ext (fun _ => False) h hj) ∧ (i = pre.length + dl r) ∧ l = [(0, .slice (some ⟨bb, 0, none⟩) xs.length cap), (1, .int .i64 (i : Int)), (4, .pointer (some ⟨h.size, 0, none⟩)), (5, .pointer (some ⟨hA.size, 0, none⟩))] ∧ hj = h') ?_ ?_
  · skip
    refine V_sr T.mix (by kernel_rfl) (fun K4 hK4 => ?_)
    refine S_mv rfl ?_
    refine S_mv rfl ?_
    first | refine S_ixn T.el59 rfl rfl (by omega) ?_ | refine S_ix1 T.el59 rfl rfl (by omega) (by omega) ?_ | refine S_ix T.el59 rfl rfl (by omega) (by omega) ?_
    refine S_ldK T.ag3 rfl (fun K' hK' => ?_)
    simp (disch := omega) only [hI.at, q0, q1, q2, q3, oP_some, Nat.add_zero]
    refine hK' _ ?_; clear hK' K'
    refine S_bin rfl rfl rfl ?_
    refine S_nil (hK4 _ _ (V_keep [0, 1, 4, 5, 12] (by simp only [proj, lk, reduceIte, Nat.reduceEqDiff]; rfl) ?_)); clear hK4
    refine V_condp rfl (fun c20 => ?_) (fun c20 => ?_)
    · skip
      refine V_sr T.mix (by kernel_rfl) (fun K5 hK5 => ?_)
      first | refine S_fa0 T.f101_2 rfl ?_ | refine S_fa T.f101_2 rfl ?_
      refine S_st T.sz4 rfl rfl rfl rfl (by simp (disch := omega) only [hqok]) ?_
      generalize hh : putH _ _ _ = h2
      have hq2 : B h2 (hA.size) #[.int .u16 (0), .int .u16 (0), .bool true, .int .i64 (0)] 101 := by rw [← hh]; exact (hq1).put 2 _
      have hEh2 : Ext (fun k => k = hA.size) h1 h2 := by rw [← hh]; exact Ext.put _ _ rfl
      clear hh
      refine S_nil (hK5 _ _ (V_keep [0, 1, 4, 5] (by simp only [proj, lk, reduceIte, Nat.reduceEqDiff]; rfl) ?_)); clear hK5
      refine V_reg T.mix (by kernel_rfl) ?_
      refine S_mv rfl ?_
      first | refine S_add rfl rfl (by omega) (by omega) ?_ | refine S_bin rfl rfl rfl ?_
      refine S_as rfl ?_
      refine S_nilk [0, 1, 4, 5] (by simp only [proj, lk, reduceIte, Nat.reduceEqDiff]; rfl) ?_
      exact ⟨h2, pre.length + 1, by rw [hde.1 c20]; exact hq2, hR1.ext hEh2 (fun e => by omega), hE1.step hEh2 (fun k hk e => by omega), by rw [hdl, if_pos (hde.1 c20)], rfl, rfl⟩
    · skip
      refine V_skipk [0, 1, 4, 5] (by simp only [proj, lk, reduceIte, Nat.reduceEqDiff]; rfl) ?_
      exact ⟨h1, pre.length, by rw [show r.1 = false by cases e : r.1; (rfl); (exact absurd (hde.2 e) c20)]; exact hq1, hR1, hE1, by rw [hdl, if_neg (fun e => c20 (hde.2 e))]; rfl, rfl, rfl⟩
  rintro l h' ⟨hj, i, hqj, hRj, hEj, hij, rfl, rfl⟩
  refine V_seq (fun K6 hK6 => ?_)
  refine V_block ?_
  refine V_loop (fun m l h' => ∃ (k : Nat) (i : Nat) (hk : Heap), (k ≤ r.2.length) ∧ (i = pre.length + dl r + k) ∧ (B hk hA.size #[.int .u16 ((pM (r.2.take k) : Nat)), .int .u16 ((nM (r.2.take k) : Nat)), .bool r.1, .int .i64 (0)] 101) ∧ (B hk h.size #[.int .u16 0, .int .u16 0, .bool false, .int .i64 0] 101) ∧ (Ext (fun _ => False) h hk) ∧ m = r.2.length - k ∧ l = [(0, .slice (some ⟨bb, 0, none⟩) xs.length cap), (1, .int .i64 (i : Int)), (4, .pointer (some ⟨h.size, 0, none⟩)), (5, .pointer (some ⟨hA.size, 0, none⟩))] ∧ hk = h') _ ⟨0, i, hj, by omega, by omega, hqj, hRj, hEj, rfl, rfl, rfl⟩ ?_
  rintro m l h' ⟨k, i, hk, hkl, hik, hqk, hRk, hEk, rfl, rfl, rfl⟩ K7 hK7
  try clear hI
  have hI := ho.ext hEk (fun _ _ f => f)
  try clear q0 q1 q2 q3 hqok
  obtain ⟨q0, q1, q2, q3, hqok⟩ := rq (hqk)
  have hgi : (k < r.2.length ∧ xs.getD i 0 = r.2.getD k 0 ∧ gd (r.2.getD k 0)) ∨ (k = r.2.length ∧ xs.getD i 0 = 0) := by
    rcases Nat.lt_or_ge k r.2.length with e | e
    · exact .inl ⟨e, by rw [hik]; exact hlit k e, gd_getD hn.1 e⟩
    · exact .inr ⟨by omega, by rw [hik, show k = r.2.length by omega]; exact hz⟩
  have hp12 := pM_lt (c := r.2.take k) (fun x hx => hn.1 x (List.mem_of_mem_take hx))
  have hn12 := nM_lt (c := r.2.take k) (fun x hx => hn.1 x (List.mem_of_mem_take hx))
  refine V_seq (fun K8 hK8 => ?_)
  refine V_sr T.mix (by kernel_rfl) (fun K9 hK9 => ?_)
  refine S_mv rfl ?_
  refine S_mv rfl ?_
  refine S_lenl T.el59 rfl ?_
  refine S_bin rfl rfl rfl ?_
  refine S_mv rfl ?_
  refine S_dec (fun g24 => ?_) (fun g24 => ?_)
  · skip
    refine S_gt rfl ?_
    refine S_mv rfl ?_
    refine S_gt rfl ?_
    refine S_mv rfl ?_
    refine S_gt rfl ?_
    first | refine S_ixn T.el59 rfl rfl (by omega) ?_ | refine S_ix1 T.el59 rfl rfl (by omega) (by omega) ?_ | refine S_ix T.el59 rfl rfl (by omega) (by omega) ?_
    refine S_gt rfl ?_
    refine S_ldK T.ag3 rfl (fun K' hK' => ?_)
    simp (disch := omega) only [hI.at, q0, q1, q2, q3, oP_some, Nat.add_zero]
    refine hK' _ ?_; clear hK' K'
    refine S_gt rfl ?_
    refine S_bin rfl rfl rfl ?_
    refine S_pt rfl rfl ?_
    refine S_nil (hK9 _ _ (V_keep [0, 1, 4, 5, 26] (by simp only [proj, lk, reduceIte, Nat.reduceEqDiff]; rfl) ?_)); clear hK9
    refine V_condp rfl (fun c24 => ?_) (fun c24 => ?_)
    · skip
      obtain ⟨hk2, hgi2, hgd⟩ := hgi.resolve_right (fun e => c24 e.2)
      unfold gd at hgd
      refine V_skipk [0, 1, 4, 5] (by simp only [proj, lk, reduceIte, Nat.reduceEqDiff]; rfl) ?_
      refine hK8 _ _ ?_; clear hK8
      refine V_block ?_
      refine V_sr T.mix (by kernel_rfl) (fun K10 hK10 => ?_)
      refine S_mv rfl ?_
      refine S_mv rfl ?_
      first | refine S_ixn T.el59 rfl rfl (by omega) ?_ | refine S_ix1 T.el59 rfl rfl (by omega) (by omega) ?_ | refine S_ix T.el59 rfl rfl (by omega) (by omega) ?_
      refine S_ldK T.ag3 rfl (fun K' hK' => ?_)
      simp (disch := omega) only [hI.at, oP_some, Nat.add_zero]
      refine hK' _ ?_; clear hK' K'
      rw [hgi2]
      refine S_as rfl ?_
      refine S_nil (hK10 _ _ (V_keep [0, 1, 4, 5, 6] (by simp only [proj, lk, reduceIte, Nat.reduceEqDiff]; rfl) ?_)); clear hK10
      refine V_seq (fun K11 hK11 => ?_)
      refine V_sr T.mix (by kernel_rfl) (fun K12 hK12 => ?_)
      refine S_mv rfl ?_
      refine S_bin rfl rfl rfl ?_
      refine S_nil (hK12 _ _ (V_keep [0, 1, 4, 5, 6, 32] (by simp only [proj, lk, reduceIte, Nat.reduceEqDiff]; rfl) ?_)); clear hK12
      refine V_condp rfl (fun c26 => ?_) (fun c26 => ?_)
      · skip
        refine V_regM #[0, 1, 2, 3, 4, 5, 6] [0, 1, 2] 3 [4, 5, 6] T.mix (by kernel_rfl) rfl ⟨rfl, rfl⟩ ?_
        first | refine S_fa0 T.f101_0 rfl ?_ | refine S_fa T.f101_0 rfl ?_
        refine S_ldK T.ag43 rfl (fun K' hK' => ?_)
        simp (disch := omega) only [hI.at, q0, q1, q2, q3, oP_some, Nat.add_zero]
        refine hK' _ ?_; clear hK' K'
        refine S_mv rfl ?_
        refine S_nil ?_
        refine SM_call T.hb62 rfl ?_
        have hbo := bitof_spec hk (r.2.getD k 0).natAbs (by omega) (by omega)
        rw [show (((r.2.getD k 0).natAbs : Nat) : Int) = (r.2.getD k 0) by omega] at hbo
        refine FC.mono hbo ?_
        rintro v' h' ⟨rfl, rfl⟩
        first | refine ⟨Grows.refl _, ?_⟩ | refine ⟨Grows.of_ext (by assumption), ?_⟩
        refine S_nor (pM (r.2.take k)) (2 ^ ((r.2.getD k 0).natAbs - 1)) _ rfl rfl rfl rfl rfl (t16 hp12) (t16 (two12 (by omega))) ?_
        first | refine S_fa0 T.f101_0 rfl ?_ | refine S_fa T.f101_0 rfl ?_
        refine S_st T.sz43 rfl rfl rfl rfl (by simp (disch := omega) only [hqok]) ?_
        generalize hh : putH _ _ _ = h2
        have hq2 : B h2 (hA.size) #[.int .u16 ((pM (r.2.take (k + 1)) : Nat)), .int .u16 ((nM (r.2.take (k + 1)) : Nat)), .bool r.1, .int .i64 (0)] 101 := by rw [← hh]; exact ((hqk).put 0 _).cong (by rw [take_snoc hk2, pM_snoc, nM_snoc, if_pos c26, if_pos c26]; rfl)
        have hEh2 : Ext (fun k => k = hA.size) hk h2 := by rw [← hh]; exact Ext.put _ _ rfl
        clear hh
        refine S_nilk [0, 1, 4, 5] (by simp only [proj, lk, reduceIte, Nat.reduceEqDiff]; rfl) ?_
        refine hK11 _ _ ?_; clear hK11
        refine V_reg T.mix (by kernel_rfl) ?_
        refine S_mv rfl ?_
        first | refine S_add rfl rfl (by omega) (by omega) ?_ | refine S_bin rfl rfl rfl ?_
        refine S_as rfl ?_
        refine S_nilk [0, 1, 4, 5] (by simp only [proj, lk, reduceIte, Nat.reduceEqDiff]; rfl) ?_
        exact hK7 _ _ ⟨_, by omega, k + 1, i + 1, h2, by omega, by omega, hq2, hRk.ext hEh2 (fun e => by omega), hEk.step hEh2 (fun k hk e => by omega), rfl, rfl, rfl⟩
      · skip
        refine V_regM #[0, 1, 2, 3, 4, 5, 6, 7] [0, 1, 2, 3] 4 [5, 6, 7] T.mix (by kernel_rfl) rfl ⟨rfl, rfl⟩ ?_
        first | refine S_fa0 T.f101_1 rfl ?_ | refine S_fa T.f101_1 rfl ?_
        refine S_ldK T.ag43 rfl (fun K' hK' => ?_)
        simp (disch := omega) only [hI.at, q0, q1, q2, q3, oP_some, Nat.add_zero]
        refine hK' _ ?_; clear hK' K'
        refine S_mv rfl ?_
        first | refine S_neg rfl (by omega) (by omega) ?_ | refine S_un rfl rfl ?_
        refine S_nil ?_
        refine SM_call T.hb62 rfl ?_
        have hbo := bitof_spec hk (r.2.getD k 0).natAbs (by omega) (by omega)
        rw [show (((r.2.getD k 0).natAbs : Nat) : Int) = -(r.2.getD k 0) by omega] at hbo
        refine FC.mono hbo ?_
        rintro v' h' ⟨rfl, rfl⟩
        first | refine ⟨Grows.refl _, ?_⟩ | refine ⟨Grows.of_ext (by assumption), ?_⟩
        refine S_nor (nM (r.2.take k)) (2 ^ ((r.2.getD k 0).natAbs - 1)) _ rfl rfl rfl rfl rfl (t16 hn12) (t16 (two12 (by omega))) ?_
        first | refine S_fa0 T.f101_1 rfl ?_ | refine S_fa T.f101_1 rfl ?_
        refine S_st T.sz43 rfl rfl rfl rfl (by simp (disch := omega) only [hqok]) ?_
        generalize hh : putH _ _ _ = h2
        have hq2 : B h2 (hA.size) #[.int .u16 ((pM (r.2.take (k + 1)) : Nat)), .int .u16 ((nM (r.2.take (k + 1)) : Nat)), .bool r.1, .int .i64 (0)] 101 := by rw [← hh]; exact ((hqk).put 1 _).cong (by rw [take_snoc hk2, pM_snoc, nM_snoc, if_neg c26, if_neg c26]; rfl)
        have hEh2 : Ext (fun k => k = hA.size) hk h2 := by rw [← hh]; exact Ext.put _ _ rfl
        clear hh
        refine S_nilk [0, 1, 4, 5] (by simp only [proj, lk, reduceIte, Nat.reduceEqDiff]; rfl) ?_
        refine hK11 _ _ ?_; clear hK11
        refine V_reg T.mix (by kernel_rfl) ?_
        refine S_mv rfl ?_
        first | refine S_add rfl rfl (by omega) (by omega) ?_ | refine S_bin rfl rfl rfl ?_
        refine S_as rfl ?_
        refine S_nilk [0, 1, 4, 5] (by simp only [proj, lk, reduceIte, Nat.reduceEqDiff]; rfl) ?_
        exact hK7 _ _ ⟨_, by omega, k + 1, i + 1, h2, by omega, by omega, hq2, hRk.ext hEh2 (fun e => by omega), hEk.step hEh2 (fun k hk e => by omega), rfl, rfl, rfl⟩
    · skip
      have hke : k = r.2.length := by
        rcases hgi with e | e
        · exact absurd (by rw [e.2.1]; exact e.2.2.1) c24
        · exact e.1
      refine V_exitk [1, 4, 5] rfl (by simp only [proj, lk, reduceIte, Nat.reduceEqDiff]; rfl) ?_
      refine hK6 _ _ ?_; clear hK6
      refine V_sr T.mix (by kernel_rfl) (fun K13 hK13 => ?_)
      refine S_mv rfl ?_
      first | refine S_add rfl rfl (by omega) (by omega) ?_ | refine S_bin rfl rfl rfl ?_
      first | refine S_fa0 T.f101_3 rfl ?_ | refine S_fa T.f101_3 rfl ?_
      refine S_st T.sz3 rfl rfl rfl rfl (by simp (disch := omega) only [hqok]) ?_
      generalize hh : putH _ _ _ = h8
      have hq8 : B h8 (hA.size) #[.int .u16 ((pM (r.2.take k) : Nat)), .int .u16 ((nM (r.2.take k) : Nat)), .bool r.1, .int .i64 ((i : Int) + 1)] 101 := by rw [← hh]; exact (hqk).put 3 _
      have hEh8 : Ext (fun k => k = hA.size) hk h8 := by rw [← hh]; exact Ext.put _ _ rfl
      clear hh
      try clear q0 q1 q2 q3 hqok
      obtain ⟨q0, q1, q2, q3, hqok⟩ := rq (hq8)
      have hR8 := hRk.ext hEh8 (fun e => by omega)
      have hRok : ∀ j, j < 4 → okPut h8 ⟨h.size, j, none⟩ = true := fun j hj => hR8.ok (by simpa using hj)
      refine S_nil (hK13 _ _ (V_keep [4, 5] (by simp only [proj, lk, reduceIte, Nat.reduceEqDiff]; rfl) ?_)); clear hK13
      refine V_sr T.mix (by kernel_rfl) (fun K14 hK14 => ?_)
      refine S_ldnK T.ag101 rfl (fun K' hK' => ?_)
      simp (disch := omega) only [q0, q1, q2, q3, oPs_cons, oPs_nil, oP_some, Nat.reduceAdd, Nat.add_zero]
      refine hK' _ ?_; clear hK' K'
      refine S_stl T.sz101 rfl rfl rfl rfl (fun j hj => by simp (disch := omega) only [hRok]) ?_
      generalize hh : putsH _ _ _ _ = h9
      have hR9 : B h9 (h.size) #[.int .u16 ((pM (r.2.take k) : Nat)), .int .u16 ((nM (r.2.take k) : Nat)), .bool r.1, .int .i64 ((i : Int) + 1)] 101 := by rw [← hh]; exact B.puts_all (hR8) (cs' := #[.int .u16 ((pM (r.2.take k) : Nat)), .int .u16 ((nM (r.2.take k) : Nat)), .bool r.1, .int .i64 ((i : Int) + 1)]) rfl
      have hEh9 : Ext (fun k => k = h.size) h8 h9 := by rw [← hh]; exact Ext.puts (S := fun k => k = h.size) rfl _ _ _
      clear hh
      refine S_nil (hK14 _ _ (V_keep [4] (by simp only [proj, lk, reduceIte, Nat.reduceEqDiff]; rfl) ?_)); clear hK14
      refine V_ret ?_
      refine hR _ _ (retc1 rfl rfl T.ag101 hR9 (by rfl) ?_)
      rw [hke, List.take_length]
      refine ⟨?_, (hEk.step hEh8 (fun k hk e => by omega)).step hEh9 (fun k hk e => by omega)⟩
      rw [show (i : Int) + 1 = ((pre.length + (oneR r).length : Nat) : Int) by omega]
  · skip
    exact absurd (by omega) g24
set_option maxHeartbeats 400000 in
theorem fit_spec (h : Heap) (a : Option Addr) (cap : Nat) (xs : List Int) (ho : IL h a cap xs) (hl : xs.length ≤ 1099511627776) (rows : List Rw) (hx : xs = flatR rows) (hn : NrmR rows) :
    FC Try.prog 30 (#[.slice a xs.length cap] : Array Value) h fun rv h' => rv = .int .i64 (fitF rows : Nat) ∧ h = h' := by
  refine FC_of [(0, .slice a xs.length cap)] Try.func30 rfl Try.ntmps30 (by simp) rfl (fun R hR => ?_)
  refine V_sr T.mix (by kernel_rfl) (fun K1 hK1 => ?_)
  refine S_as rfl ?_
  refine S_nil (hK1 _ _ (V_keep [0] (by simp only [proj, lk, reduceIte, Nat.reduceEqDiff]; rfl) ?_)); clear hK1
  refine V_sr T.mix (by kernel_rfl) (fun K2 hK2 => ?_)
  refine S_as rfl ?_
  refine S_nil (hK2 _ _ (V_keep [0, 3] (by simp only [proj, lk, reduceIte, Nat.reduceEqDiff]; rfl) ?_)); clear hK2
  refine V_seq (fun K3 hK3 => ?_)
  refine V_sr T.mix (by kernel_rfl) (fun K4 hK4 => ?_)
  refine S_as rfl ?_
  refine S_nil (hK4 _ _ (V_keep [0, 3, 4] (by simp only [proj, lk, reduceIte, Nat.reduceEqDiff]; rfl) ?_)); clear hK4
  refine V_block ?_
  refine V_loop (fun m l h' => ∃ (i : Nat) (n : Nat), (i ≤ xs.length) ∧ ((13 : Int) ∉ xs.take i) ∧ (n = (xs.take i).count 0) ∧ m = xs.length - i ∧ l = [(0, .slice a xs.length cap), (3, .int .i64 (n : Int)), (4, .int .i64 (i : Int))] ∧ h = h') _ ⟨0, 0, by omega, by simp, by simp, rfl, rfl, rfl⟩ ?_
  rintro m l h' ⟨i, n, hi, h13, hc, rfl, rfl, rfl⟩ K5 hK5
  have hnl : n ≤ xs.length := by rw [hc]; exact Nat.le_trans List.count_le_length (by rw [List.length_take]; omega)
  refine V_seq (fun K6 hK6 => ?_)
  refine V_sr T.mix (by kernel_rfl) (fun K7 hK7 => ?_)
  refine S_mv rfl ?_
  refine S_mv rfl ?_
  refine S_lenl T.el59 rfl ?_
  refine S_bin rfl rfl rfl ?_
  refine S_nil (hK7 _ _ (V_keep [0, 3, 4, 8] (by simp only [proj, lk, reduceIte, Nat.reduceEqDiff]; rfl) ?_)); clear hK7
  refine V_condp rfl (fun c40 => ?_) (fun c40 => ?_)
  · skip
    obtain ⟨bb, rfl, _, _, _⟩ := ho.get (by omega)
    refine V_skipk [0, 3, 4] (by simp only [proj, lk, reduceIte, Nat.reduceEqDiff]; rfl) ?_
    refine hK6 _ _ ?_; clear hK6
    refine V_seq (fun K8 hK8 => ?_)
    refine V_block ?_
    refine V_seq (fun K9 hK9 => ?_)
    refine V_sr T.mix (by kernel_rfl) (fun K10 hK10 => ?_)
    refine S_mv rfl ?_
    refine S_mv rfl ?_
    first | refine S_ixn T.el59 rfl rfl (by omega) ?_ | refine S_ix1 T.el59 rfl rfl (by omega) (by omega) ?_ | refine S_ix T.el59 rfl rfl (by omega) (by omega) ?_
    refine S_ldK T.ag3 rfl (fun K' hK' => ?_)
    simp (disch := omega) only [ho.at, oP_some, Nat.add_zero]
    refine hK' _ ?_; clear hK' K'
    refine S_bin rfl rfl rfl ?_
    refine S_nil (hK10 _ _ (V_keep [0, 3, 4, 15] (by simp only [proj, lk, reduceIte, Nat.reduceEqDiff]; rfl) ?_)); clear hK10
    refine V_condp rfl (fun c41 => ?_) (fun c41 => ?_)
    · skip
      refine V_sr T.mix (by kernel_rfl) (fun K11 hK11 => ?_)
      refine S_as rfl ?_
      refine S_nil (hK11 _ _ (V_keep [2] (by simp only [proj, lk, reduceIte, Nat.reduceEqDiff]; rfl) ?_)); clear hK11
      refine V_ret ?_
      refine hR _ _ (ret1 rfl rfl ?_)
      exact ⟨by unfold fitF; rw [if_pos ((mem13 hn).1 (by rw [← hx, ← c41]; exact mem_at (by omega)))]; rfl, rfl⟩
    · skip
      refine V_skipk [0, 3, 4] (by simp only [proj, lk, reduceIte, Nat.reduceEqDiff]; rfl) ?_
      refine hK9 _ _ ?_; clear hK9
      refine V_sr T.mix (by kernel_rfl) (fun K12 hK12 => ?_)
      refine S_mv rfl ?_
      refine S_mv rfl ?_
      first | refine S_ixn T.el59 rfl rfl (by omega) ?_ | refine S_ix1 T.el59 rfl rfl (by omega) (by omega) ?_ | refine S_ix T.el59 rfl rfl (by omega) (by omega) ?_
      refine S_ldK T.ag3 rfl (fun K' hK' => ?_)
      simp (disch := omega) only [ho.at, oP_some, Nat.add_zero]
      refine hK' _ ?_; clear hK' K'
      refine S_bin rfl rfl rfl ?_
      refine S_nil (hK12 _ _ (V_keep [0, 3, 4, 20] (by simp only [proj, lk, reduceIte, Nat.reduceEqDiff]; rfl) ?_)); clear hK12
      refine V_condp rfl (fun c44 => ?_) (fun c44 => ?_)
      · skip
        refine V_reg T.mix (by kernel_rfl) ?_
        refine S_mv rfl ?_
        first | refine S_add rfl rfl (by omega) (by omega) ?_ | refine S_bin rfl rfl rfl ?_
        refine S_as rfl ?_
        refine S_nilk [0, 3, 4] (by simp only [proj, lk, reduceIte, Nat.reduceEqDiff]; rfl) ?_
        refine hK8 _ _ ?_; clear hK8
        refine V_reg T.mix (by kernel_rfl) ?_
        refine S_mv rfl ?_
        first | refine S_add rfl rfl (by omega) (by omega) ?_ | refine S_bin rfl rfl rfl ?_
        refine S_as rfl ?_
        refine S_nilk [0, 3, 4] (by simp only [proj, lk, reduceIte, Nat.reduceEqDiff]; rfl) ?_
        exact hK5 _ _ ⟨_, by omega, i + 1, n + 1, by omega, fun e => by rcases (mem_take_snoc (by omega)).1 e with q | q; (exact h13 q); (exact c41 q.symm), by rw [getD_snoc _ _ (by omega), List.count_append, ← hc, c44]; rfl, rfl, rfl, rfl⟩
      · skip
        refine V_skipk [0, 3, 4] (by simp only [proj, lk, reduceIte, Nat.reduceEqDiff]; rfl) ?_
        refine hK8 _ _ ?_; clear hK8
        refine V_reg T.mix (by kernel_rfl) ?_
        refine S_mv rfl ?_
        first | refine S_add rfl rfl (by omega) (by omega) ?_ | refine S_bin rfl rfl rfl ?_
        refine S_as rfl ?_
        refine S_nilk [0, 3, 4] (by simp only [proj, lk, reduceIte, Nat.reduceEqDiff]; rfl) ?_
        exact hK5 _ _ ⟨_, by omega, i + 1, n, by omega, fun e => by rcases (mem_take_snoc (by omega)).1 e with q | q; (exact h13 q); (exact c41 q.symm), by rw [getD_snoc _ _ (by omega), List.count_append, ← hc, List.count_singleton, if_neg (by simpa using c44)]; rfl, rfl, rfl, rfl⟩
  · skip
    refine V_exitk [3] rfl (by simp only [proj, lk, reduceIte, Nat.reduceEqDiff]; rfl) ?_
    refine hK3 _ _ ?_; clear hK3
    refine V_seq (fun K13 hK13 => ?_)
    refine V_sr T.mix (by kernel_rfl) (fun K14 hK14 => ?_)
    refine S_mv rfl ?_
    refine S_bin rfl rfl rfl ?_
    refine S_nil (hK14 _ _ (V_keep [24] (by simp only [proj, lk, reduceIte, Nat.reduceEqDiff]; rfl) ?_)); clear hK14
    refine V_condp rfl (fun c48 => ?_) (fun c48 => ?_)
    · skip
      refine V_sr T.mix (by kernel_rfl) (fun K15 hK15 => ?_)
      refine S_as rfl ?_
      refine S_nil (hK15 _ _ (V_keep [2] (by simp only [proj, lk, reduceIte, Nat.reduceEqDiff]; rfl) ?_)); clear hK15
      refine V_ret ?_
      refine hR _ _ (ret1 rfl rfl ?_)
      have hie : i = xs.length := by omega
      rw [hie, List.take_length, hx] at h13 hc
      rw [count0 hn] at hc
      exact ⟨by unfold fitF; rw [if_neg (fun e => h13 ((mem13 hn).2 e)), if_pos (by omega)]; rfl, rfl⟩
    · skip
      refine V_skipk [] (by simp only [proj, lk, reduceIte, Nat.reduceEqDiff]; rfl) ?_
      refine hK13 _ _ ?_; clear hK13
      refine V_sr T.mix (by kernel_rfl) (fun K16 hK16 => ?_)
      refine S_as rfl ?_
      refine S_nil (hK16 _ _ (V_keep [2] (by simp only [proj, lk, reduceIte, Nat.reduceEqDiff]; rfl) ?_)); clear hK16
      refine V_ret ?_
      refine hR _ _ (ret1 rfl rfl ?_)
      have hie : i = xs.length := by omega
      rw [hie, List.take_length, hx] at h13 hc
      rw [count0 hn] at hc
      exact ⟨by unfold fitF; rw [if_neg (fun e => h13 ((mem13 hn).2 e)), if_neg (by omega)]; rfl, rfl⟩
set_option maxHeartbeats 400000 in
theorem load_spec (h : Heap) (C X : Nat) (sl : Nat → Option (List Int)) (ks : KS h C X sl) (a : Option Addr) (cap : Nat) (xs : List Int) (ho : IL h a cap xs) (hl : xs.length ≤ 1099511627776) (hbc : blkA a ≠ some C) (rows : List Rw) (hx : xs = flatR rows) (hn : NrmR rows) (h40 : rows.length ≤ 40) (hs0 : rowsS sl 64 = []) :
    FC Try.prog 32 (#[.pointer (some ⟨C, 0, none⟩), .slice a xs.length cap] : Array Value) h fun rv h' => rv = .tuple #[] ∧ (∃ sl', KS h' C X sl' ∧ (rowsS sl' 64).Perm (rows.map (·.2))) ∧ Ext (fun x => x = C) h h' := by
  refine FC_of [(0, .pointer (some ⟨C, 0, none⟩)), (1, .slice a xs.length cap)] Try.func32 rfl Try.ntmps32 (by simp) rfl (fun R hR => ?_)
  refine V_sr T.mix (by kernel_rfl) (fun K1 hK1 => ?_)
  refine S_as rfl ?_
  refine S_nil (hK1 _ _ (V_keep [0, 1, 4] (by simp only [proj, lk, reduceIte, Nat.reduceEqDiff]; rfl) ?_)); clear hK1
  refine V_block ?_
  refine V_loop (fun m l h' => ∃ (j : Nat) (i : Nat) (hk : Heap) (slk : Nat → Option (List Int)), (j ≤ rows.length) ∧ (i = (flatR (rows.take j)).length) ∧ (KS hk C X slk) ∧ ((rowsS slk 64).Perm ((rows.take j).map (·.2))) ∧ (Ext (fun x => x = C) h hk) ∧ m = rows.length - j ∧ l = [(0, .pointer (some ⟨C, 0, none⟩)), (1, .slice a xs.length cap), (4, .int .i64 (i : Int))] ∧ hk = h') _ ⟨0, 0, h, sl, by omega, by simp [flatR], ks, by rw [hs0]; simp, Ext.refl _ _, rfl, rfl, rfl⟩ ?_
  rintro m l h' ⟨j, i, hk, slk, hj, hi, hks, hpm, hEk, rfl, rfl, rfl⟩ K2 hK2
  refine V_seq (fun K3 hK3 => ?_)
  refine V_sr T.mix (by kernel_rfl) (fun K4 hK4 => ?_)
  refine S_mv rfl ?_
  refine S_mv rfl ?_
  refine S_lenl T.el59 rfl ?_
  refine S_bin rfl rfl rfl ?_
  refine S_nil (hK4 _ _ (V_keep [0, 1, 4, 9] (by simp only [proj, lk, reduceIte, Nat.reduceEqDiff]; rfl) ?_)); clear hK4
  refine V_condp rfl (fun c77 => ?_) (fun c77 => ?_)
  · skip
    refine V_skipk [0, 1, 4] (by simp only [proj, lk, reduceIte, Nat.reduceEqDiff]; rfl) ?_
    refine hK3 _ _ ?_; clear hK3
    refine V_block ?_
    refine V_sr T.mix (by kernel_rfl) (fun K5 hK5 => ?_)
    refine S_mv rfl ?_
    refine S_mv rfl ?_
    refine S_call T.hb48 rfl ?_
    have hjl : j < rows.length := (flat_lt hj).1 (by rw [← hx, ← hi]; omega)
    have hnj := hn _ (rmem hjl)
    have h9 := read_spec hk a cap xs (ho.ext hEk (fun z e w => hbc (by rw [e, w]))) hl (flatR (rows.take j)) (rows.getD j (false, [])) (flatR (rows.drop (j + 1))) (by rw [hx]; exact flat_split rows hjl) hnj
    rw [← hi] at h9
    refine FC.mono h9 ?_
    rintro v' h2 ⟨rfl, hE2⟩
    have hCk := hks.lt
    have hk2l := hE2.1
    refine S_allocA T.z101 ?_
    generalize hh : Array.push h2 _ = h3
    have hq3 : B h3 h2.size #[.int .u16 0, .int .u16 0, .bool false, .int .i64 0] 101 := by rw [← hh]; exact B.new _ _ _
    have hEh3 : Ext (fun _ => False) h2 h3 := by rw [← hh]; exact Ext.push _ _ _
    have hsh3 : h3.size = h2.size + 1 := by rw [← hh]; simp
    clear hh
    try clear q0 q1 q2 q3 hqok
    obtain ⟨q0, q1, q2, q3, hqok⟩ := rq (hq3)
    refine S_stl T.sz101 rfl rfl rfl rfl (fun j hj => by simp (disch := omega) only [hqok]) ?_
    generalize hh : putsH _ _ _ _ = h4
    have hq4 : B h4 (h2.size) #[.int .u16 ((pM (rows.getD j (false, [])).2 : Nat)), .int .u16 ((nM (rows.getD j (false, [])).2 : Nat)), .bool (rows.getD j (false, [])).1, .int .i64 ((i + (oneR (rows.getD j (false, []))).length : Nat))] 101 := by rw [← hh]; exact B.puts_all (hq3) (cs' := #[.int .u16 ((pM (rows.getD j (false, [])).2 : Nat)), .int .u16 ((nM (rows.getD j (false, [])).2 : Nat)), .bool (rows.getD j (false, [])).1, .int .i64 ((i + (oneR (rows.getD j (false, []))).length : Nat))]) rfl
    have hEh4 : Ext (fun k => k = h2.size) h3 h4 := by rw [← hh]; exact Ext.puts (S := fun k => k = h2.size) rfl _ _ _
    clear hh
    try clear q0 q1 q2 q3 hqok
    obtain ⟨q0, q1, q2, q3, hqok⟩ := rq (hq4)
    refine S_nil (hK5 _ _ (V_keep [0, 1, 5] (by simp only [proj, lk, reduceIte, Nat.reduceEqDiff]; rfl) ?_)); clear hK5
    refine V_sr T.mix (by kernel_rfl) (fun K6 hK6 => ?_)
    refine S_mv rfl ?_
    first | refine S_fa0 T.f101_0 rfl ?_ | refine S_fa T.f101_0 rfl ?_
    refine S_ldK T.ag43 rfl (fun K' hK' => ?_)
    simp (disch := omega) only [q0, q1, q2, q3, oP_some, Nat.add_zero]
    refine hK' _ ?_; clear hK' K'
    first | refine S_fa0 T.f101_1 rfl ?_ | refine S_fa T.f101_1 rfl ?_
    refine S_ldK T.ag43 rfl (fun K' hK' => ?_)
    simp (disch := omega) only [q0, q1, q2, q3, oP_some, Nat.add_zero]
    refine hK' _ ?_; clear hK' K'
    refine S_call T.hb49 rfl ?_
    refine FC.mono (put_spec h4 C X slk (((hks.ext hE2 (fun f => f)).ext hEh3 (fun f => f)).ext hEh4 (fun e => by omega)) (rows.getD j (false, [])).2 hnj (by rw [hpm.length_eq]; simp; omega)) ?_
    rintro v' h5 ⟨rfl, ⟨s, hs, hfr, hks5⟩, hE5⟩
    try clear q0 q1 q2 q3 hqok
    obtain ⟨q0, q1, q2, q3, hqok⟩ := rq (hq4.ext hE5 (fun e => by omega))
    refine S_nil (hK6 _ _ (V_keep [0, 1, 5] (by simp only [proj, lk, reduceIte, Nat.reduceEqDiff]; rfl) ?_)); clear hK6
    refine V_reg T.mix (by kernel_rfl) ?_
    first | refine S_fa0 T.f101_3 rfl ?_ | refine S_fa T.f101_3 rfl ?_
    refine S_ldK T.ag3 rfl (fun K' hK' => ?_)
    simp (disch := omega) only [q0, q1, q2, q3, oP_some, Nat.add_zero]
    refine hK' _ ?_; clear hK' K'
    refine S_as rfl ?_
    refine S_nilk [0, 1, 4] (by simp only [proj, lk, reduceIte, Nat.reduceEqDiff]; rfl) ?_
    exact hK2 _ _ ⟨_, by omega, j + 1, i + (oneR (rows.getD j (false, []))).length, h5, _, by omega, by rw [flat_next hjl, hi], hks5, (rows_put hfr 64 hs).trans ((hpm.append_right [_]).trans (by rw [rtake_snoc hjl, List.map_append]; exact List.Perm.refl _)), (((hEk.step hE2 (fun z hz f => f.elim)).step hEh3 (fun z hz f => f.elim)).step hEh4 (fun z hz e => by have := hEk.1; omega)).trans hE5, rfl, rfl, rfl⟩
  · skip
    refine V_exitk [] rfl (by simp only [proj, lk, reduceIte, Nat.reduceEqDiff]; rfl) ?_
    -- end
    refine hR _ _ (ret0 rfl ?_)
    have hje : j = rows.length := by
      rcases Nat.lt_or_ge j rows.length with e | e
      · have h8 := (flat_lt hj).2 e
        rw [← hx, ← hi] at h8
        omega
      · omega
    rw [hje, List.take_length] at hpm
    exact ⟨rfl, ⟨slk, hks, hpm⟩, hEk⟩
set_option maxHeartbeats 400000 in
theorem turn_spec (h : Heap) (C X : Nat) (sl : Nat → Option (List Int)) (ks : KS h C X sl) (r : Rw) (hn : Nrm r.2) (x : Int) :
    FC Try.prog 50 (#[.pointer (some ⟨C, 0, none⟩), .agg #[.int .u16 ((pM r.2 : Nat)), .int .u16 ((nM r.2 : Nat)), .bool r.1, .int .i64 (x)]] : Array Value) h fun rv h' => ∃ (e : Nat) (sl' : Nat → Option (List Int)), rv = .int .i64 (e : Int) ∧ KS h' C X sl' ∧ Turn (rowsS sl 64) r e (rowsS sl' 64) ∧ Ext (fun x => x = C) h h' := by
  have hCl := ks.lt
  refine FC_of [(0, .pointer (some ⟨C, 0, none⟩)), (1, .agg #[.int .u16 ((pM r.2 : Nat)), .int .u16 ((nM r.2 : Nat)), .bool r.1, .int .i64 (x)])] Try.func50 rfl Try.ntmps50 (by simp) rfl (fun R hR => ?_)
  refine V_sr T.mix (by kernel_rfl) (fun K1 hK1 => ?_)
  refine S_boxA rfl ?_
  generalize hh : Array.push h _ = h1
  have hq1 : B h1 h.size #[.int .u16 ((pM r.2 : Nat)), .int .u16 ((nM r.2 : Nat)), .bool r.1, .int .i64 (x)] 101 := by rw [← hh]; exact B.new _ _ _
  have hEh1 : Ext (fun _ => False) h h1 := by rw [← hh]; exact Ext.push _ _ _
  have hsh1 : h1.size = h.size + 1 := by rw [← hh]; simp
  clear hh
  try clear q0 q1 q2 q3 hqok
  obtain ⟨q0, q1, q2, q3, hqok⟩ := rq (hq1)
  replace ks := ks.ext hEh1 (fun f => f)
  have hE1 : Ext (fun x => x = C) h h1 := hEh1.mono (fun z f => f.elim)
  obtain ⟨Q, hB, hS⟩ := ks
  refine S_as rfl ?_
  refine S_nil (hK1 _ _ (V_keep [0, 3] (by simp only [proj, lk, reduceIte, Nat.reduceEqDiff]; rfl) ?_)); clear hK1
  refine V_seq (fun K2 hK2 => ?_)
  refine V_sr T.mix (by kernel_rfl) (fun K3 hK3 => ?_)
  first | refine S_fa0 T.f101_2 rfl ?_ | refine S_fa T.f101_2 rfl ?_
  refine S_ldK T.ag4 rfl (fun K' hK' => ?_)
  simp (disch := omega) only [q0, q1, q2, q3, oP_some, Nat.add_zero]
  refine hK' _ ?_; clear hK' K'
  refine S_nil (hK3 _ _ (V_keep [0, 3, 7] (by simp only [proj, lk, reduceIte, Nat.reduceEqDiff]; rfl) ?_)); clear hK3
  refine V_condb rfl (fun c104 => ?_) (fun c104 => ?_)
  · skip
    refine V_sr T.mix (by kernel_rfl) (fun K4 hK4 => ?_)
    refine S_mv rfl ?_
    first | refine S_fa0 T.f101_0 rfl ?_ | refine S_fa T.f101_0 rfl ?_
    refine S_ldK T.ag43 rfl (fun K' hK' => ?_)
    simp (disch := omega) only [q0, q1, q2, q3, oP_some, Nat.add_zero]
    refine hK' _ ?_; clear hK' K'
    first | refine S_fa0 T.f101_1 rfl ?_ | refine S_fa T.f101_1 rfl ?_
    refine S_ldK T.ag43 rfl (fun K' hK' => ?_)
    simp (disch := omega) only [q0, q1, q2, q3, oP_some, Nat.add_zero]
    refine hK' _ ?_; clear hK' K'
    refine S_call T.hb64 rfl ?_
    refine FC.mono (seek_spec h1 C X sl ⟨Q, hB, hS⟩ r.2 hn) ?_
    rintro v' h' ⟨r1, rfl, rfl, hsk⟩
    refine S_as rfl ?_
    refine S_nil (hK4 _ _ (V_keep [0, 5] (by simp only [proj, lk, reduceIte, Nat.reduceEqDiff]; rfl) ?_)); clear hK4
    refine V_seq (fun K5 hK5 => ?_)
    refine V_sr T.mix (by kernel_rfl) (fun K6 hK6 => ?_)
    refine S_mv rfl ?_
    refine S_bin rfl rfl rfl ?_
    refine S_nil (hK6 _ _ (V_keep [0, 5, 15] (by simp only [proj, lk, reduceIte, Nat.reduceEqDiff]; rfl) ?_)); clear hK6
    refine V_condp rfl (fun c106 => ?_) (fun c106 => ?_)
    · skip
      refine V_sr T.mix (by kernel_rfl) (fun K7 hK7 => ?_)
      refine S_as rfl ?_
      refine S_nil (hK7 _ _ (V_keep [4] (by simp only [proj, lk, reduceIte, Nat.reduceEqDiff]; rfl) ?_)); clear hK7
      refine V_ret ?_
      refine hR _ _ (ret1 rfl rfl ?_)
      exact ⟨19, sl, rfl, ⟨Q, hB, hS⟩, turn_gone c104 (fun hm => by obtain ⟨i, hi, he⟩ := mem_rows.1 hm; rcases hsk with ⟨s, e1, e2, e3⟩ | e; (omega); (exact e.2 i hi he)) _, hE1⟩
    · skip
      refine V_skipk [0, 5] (by simp only [proj, lk, reduceIte, Nat.reduceEqDiff]; rfl) ?_
      refine hK5 _ _ ?_; clear hK5
      refine V_sr T.mix (by kernel_rfl) (fun K8 hK8 => ?_)
      refine S_mv rfl ?_
      refine S_mv rfl ?_
      refine S_call T.hb65 rfl ?_
      obtain ⟨s, hs, rfl, hsc⟩ : ∃ s : Nat, s < 64 ∧ r1 = s ∧ sl s = some r.2 := by
        rcases hsk with e | e
        · exact e
        · omega
      refine FC.mono (drop_spec h1 C X sl ⟨Q, hB, hS⟩ s hs r.2 hsc) ?_
      rintro v' h2 ⟨rfl, hks2, hE2⟩
      refine S_nil (hK8 _ _ (V_keep [] (by simp only [proj, lk, reduceIte, Nat.reduceEqDiff]; rfl) ?_)); clear hK8
      refine V_sr T.mix (by kernel_rfl) (fun K9 hK9 => ?_)
      refine S_as rfl ?_
      refine S_nil (hK9 _ _ (V_keep [4] (by simp only [proj, lk, reduceIte, Nat.reduceEqDiff]; rfl) ?_)); clear hK9
      refine V_ret ?_
      refine hR _ _ (ret1 rfl rfl ?_)
      exact ⟨0, _, rfl, hks2, turn_del c104 (rows_drop hsc 64 hs), hE1.trans hE2⟩
  · skip
    refine V_skipk [0, 3] (by simp only [proj, lk, reduceIte, Nat.reduceEqDiff]; rfl) ?_
    refine hK2 _ _ ?_; clear hK2
    refine V_seq (fun K10 hK10 => ?_)
    refine V_sr T.mix (by kernel_rfl) (fun K11 hK11 => ?_)
    refine S_mv rfl ?_
    first | refine S_fa0 T.f101_0 rfl ?_ | refine S_fa T.f101_0 rfl ?_
    refine S_ldK T.ag43 rfl (fun K' hK' => ?_)
    simp (disch := omega) only [q0, q1, q2, q3, oP_some, Nat.add_zero]
    refine hK' _ ?_; clear hK' K'
    first | refine S_fa0 T.f101_1 rfl ?_ | refine S_fa T.f101_1 rfl ?_
    refine S_ldK T.ag43 rfl (fun K' hK' => ?_)
    simp (disch := omega) only [q0, q1, q2, q3, oP_some, Nat.add_zero]
    refine hK' _ ?_; clear hK' K'
    refine S_call T.hb66 rfl ?_
    refine FC.mono (rup_spec h1 C X sl ⟨Q, hB, hS⟩ r.2 hn) ?_
    rintro v' h' ⟨g, rfl, rfl, hg⟩
    refine S_notb rfl ?_
    refine S_nil (hK11 _ _ (V_keep [0, 3, 25] (by simp only [proj, lk, reduceIte, Nat.reduceEqDiff]; rfl) ?_)); clear hK11
    refine V_condb rfl (fun c112 => ?_) (fun c112 => ?_)
    · skip
      refine V_sr T.mix (by kernel_rfl) (fun K12 hK12 => ?_)
      refine S_as rfl ?_
      refine S_nil (hK12 _ _ (V_keep [4] (by simp only [proj, lk, reduceIte, Nat.reduceEqDiff]; rfl) ?_)); clear hK12
      refine V_ret ?_
      refine hR _ _ (ret1 rfl rfl ?_)
      exact ⟨18, sl, rfl, ⟨Q, hB, hS⟩, turn_step (by simp [c104]) (by by_cases e : Fix (rowsS sl 64) (deny r.2); (exact e); (rw [hg.2 e] at c112; simp at c112)) _, hE1⟩
    · skip
      refine V_skipk [0, 3] (by simp only [proj, lk, reduceIte, Nat.reduceEqDiff]; rfl) ?_
      refine hK10 _ _ ?_; clear hK10
      refine V_seq (fun K13 hK13 => ?_)
      refine V_sr T.mix (by kernel_rfl) (fun K14 hK14 => ?_)
      refine S_mv rfl ?_
      refine S_nc rfl ?_
      first | refine S_fa0 T.f47_3 rfl ?_ | refine S_fa T.f47_3 rfl ?_
      refine S_ldK T.ag45 rfl (fun K' hK' => ?_)
      simp (disch := omega) only [klUsed hB, oP_some, Nat.add_zero]
      refine hK' _ ?_; clear hK' K'
      refine S_bin rfl rfl rfl ?_
      refine S_nil (hK14 _ _ (V_keep [0, 3, 30] (by simp only [proj, lk, reduceIte, Nat.reduceEqDiff]; rfl) ?_)); clear hK14
      refine V_condp rfl (fun c115 => ?_) (fun c115 => ?_)
      · skip
        refine V_sr T.mix (by kernel_rfl) (fun K15 hK15 => ?_)
        refine S_as rfl ?_
        refine S_nil (hK15 _ _ (V_keep [4] (by simp only [proj, lk, reduceIte, Nat.reduceEqDiff]; rfl) ?_)); clear hK15
        refine V_ret ?_
        refine hR _ _ (ret1 rfl rfl ?_)
        exact ⟨12, sl, rfl, ⟨Q, hB, hS⟩, turn_full (by simp [c104]) (hg.1 (by simpa using c112)) ((full_iff hS).1 (by omega)) _, hE1⟩
      · skip
        have hnf : ¬ 64 ≤ (rowsS sl 64).length := fun e => c115 (by rw [(full_iff hS).2 e]; rfl)
        refine V_skipk [0, 3] (by simp only [proj, lk, reduceIte, Nat.reduceEqDiff]; rfl) ?_
        refine hK13 _ _ ?_; clear hK13
        refine V_sr T.mix (by kernel_rfl) (fun K16 hK16 => ?_)
        refine S_mv rfl ?_
        first | refine S_fa0 T.f101_0 rfl ?_ | refine S_fa T.f101_0 rfl ?_
        refine S_ldK T.ag43 rfl (fun K' hK' => ?_)
        simp (disch := omega) only [q0, q1, q2, q3, oP_some, Nat.add_zero]
        refine hK' _ ?_; clear hK' K'
        first | refine S_fa0 T.f101_1 rfl ?_ | refine S_fa T.f101_1 rfl ?_
        refine S_ldK T.ag43 rfl (fun K' hK' => ?_)
        simp (disch := omega) only [q0, q1, q2, q3, oP_some, Nat.add_zero]
        refine hK' _ ?_; clear hK' K'
        refine S_call T.hb49 rfl ?_
        refine FC.mono (put_spec h1 C X sl ⟨Q, hB, hS⟩ r.2 hn (by omega)) ?_
        rintro v' h2 ⟨rfl, ⟨s, hs, hfr, hks2⟩, hE2⟩
        refine S_nil (hK16 _ _ (V_keep [] (by simp only [proj, lk, reduceIte, Nat.reduceEqDiff]; rfl) ?_)); clear hK16
        refine V_sr T.mix (by kernel_rfl) (fun K17 hK17 => ?_)
        refine S_as rfl ?_
        refine S_nil (hK17 _ _ (V_keep [4] (by simp only [proj, lk, reduceIte, Nat.reduceEqDiff]; rfl) ?_)); clear hK17
        refine V_ret ?_
        refine hR _ _ (ret1 rfl rfl ?_)
        exact ⟨0, _, rfl, hks2, turn_add (by simp [c104]) (hg.1 (by simpa using c112)) hnf (rows_put hfr 64 hs), hE1.trans hE2⟩
set_option maxHeartbeats 400000 in
theorem refused_spec (h : Heap) (e w p : Int) :
    FC Try.prog 29 (#[.int .i64 e, .int .i64 w, .int .i64 p] : Array Value) h fun rv h' => rv = .agg #[.int .i64 (e), .int .i64 (w), .int .i64 (p)] ∧ Ext (fun _ => False) h h' := by
  refine FC_of [(0, .int .i64 e), (1, .int .i64 w), (2, .int .i64 p)] Try.func29 rfl Try.ntmps29 (by simp) rfl (fun R hR => ?_)
  refine V_sr T.mix (by kernel_rfl) (fun K1 hK1 => ?_)
  refine S_allocA T.z55 ?_
  generalize hh : Array.push h _ = hA
  have hRA : B hA h.size #[.int .i64 0, .int .i64 0, .int .i64 0] 55 := by rw [← hh]; exact B.new _ _ _
  have hEhA : Ext (fun _ => False) h hA := by rw [← hh]; exact Ext.push _ _ _
  have hshA : hA.size = h.size + 1 := by rw [← hh]; simp
  clear hh
  have hRok : ∀ j, j < 3 → okPut hA ⟨h.size, j, none⟩ = true := fun j hj => hRA.ok (by simpa using hj)
  refine S_nil (hK1 _ _ (V_keep [0, 1, 2, 6] (by simp only [proj, lk, reduceIte, Nat.reduceEqDiff]; rfl) ?_)); clear hK1
  refine V_sr T.mix (by kernel_rfl) (fun K2 hK2 => ?_)
  refine S_mv rfl ?_
  refine S_mv rfl ?_
  refine S_mv rfl ?_
  refine S_bld rfl (T.bld55_0_1_2 _ _ _) ?_
  refine S_stl T.sz55 rfl rfl rfl rfl (fun j hj => by simp (disch := omega) only [hRok]) ?_
  generalize hh : putsH _ _ _ _ = h1
  have hR9 : B h1 (h.size) #[.int .i64 (e), .int .i64 (w), .int .i64 (p)] 55 := by rw [← hh]; exact B.puts_all (hRA) (cs' := #[.int .i64 (e), .int .i64 (w), .int .i64 (p)]) rfl
  have hEh1 : Ext (fun k => k = h.size) hA h1 := by rw [← hh]; exact Ext.puts (S := fun k => k = h.size) rfl _ _ _
  clear hh
  refine S_nil (hK2 _ _ (V_keep [6] (by simp only [proj, lk, reduceIte, Nat.reduceEqDiff]; rfl) ?_)); clear hK2
  refine V_ret ?_
  refine hR _ _ (retc1 rfl rfl T.ag55 hR9 (by rfl) ?_)
  exact ⟨rfl, hEhA.step hEh1 (fun k hk e => by omega)⟩
set_option maxHeartbeats 400000 in
theorem follow_spec (h : Heap) (C X : Nat) (sl : Nat → Option (List Int)) (ks : KS h C X sl) (a : Option Addr) (cap : Nat) (xs : List Int) (ho : IL h a cap xs) (hl : xs.length ≤ 1099511627776) (hbc : blkA a ≠ some C) (rows : List Rw) (hx : xs = flatR rows) (hn : NrmR rows) :
    FC Try.prog 33 (#[.pointer (some ⟨C, 0, none⟩), .slice a xs.length cap] : Array Value) h fun rv h' => rv = .agg #[.int .i64 ((fol rows (rowsS sl 64) 0).1), .int .i64 (if (fol rows (rowsS sl 64) 0).1 = 0 then 0 else 2), .int .i64 ((fol rows (rowsS sl 64) 0).2)] ∧ (∃ sl', KS h' C X sl') ∧ Ext (fun x => x = C) h h' := by
  have hC0 := ks.lt
  refine FC_of [(0, .pointer (some ⟨C, 0, none⟩)), (1, .slice a xs.length cap)] Try.func33 rfl Try.ntmps33 (by simp) rfl (fun R hR => ?_)
  refine V_sr T.mix (by kernel_rfl) (fun K1 hK1 => ?_)
  refine S_allocA T.z55 ?_
  generalize hh : Array.push h _ = hA
  have hRA : B hA h.size #[.int .i64 0, .int .i64 0, .int .i64 0] 55 := by rw [← hh]; exact B.new _ _ _
  have hEhA : Ext (fun _ => False) h hA := by rw [← hh]; exact Ext.push _ _ _
  have hshA : hA.size = h.size + 1 := by rw [← hh]; simp
  clear hh
  replace ks := ks.ext hEhA (fun f => f)
  have hEA : Ext (fun x => x = C) h hA := hEhA.mono (fun z f => f.elim)
  refine S_nil (hK1 _ _ (V_keep [0, 1, 4] (by simp only [proj, lk, reduceIte, Nat.reduceEqDiff]; rfl) ?_)); clear hK1
  refine V_sr T.mix (by kernel_rfl) (fun K2 hK2 => ?_)
  refine S_as rfl ?_
  refine S_as rfl ?_
  refine S_nil (hK2 _ _ (V_keep [0, 1, 4, 5, 6] (by simp only [proj, lk, reduceIte, Nat.reduceEqDiff]; rfl) ?_)); clear hK2
  refine V_seq (fun K3 hK3 => ?_)
  refine V_block ?_
  refine V_loop (fun m l h' => ∃ (j : Nat) (i : Nat) (hk : Heap) (slk : Nat → Option (List Int)), (j ≤ rows.length) ∧ (i = (flatR (rows.take j)).length) ∧ (KS hk C X slk) ∧ ((fol rows (rowsS sl 64) 0) = fol (rows.drop j) (rowsS slk 64) j) ∧ (Ext (fun x => x = C) h hk) ∧ (B hk h.size #[.int .i64 0, .int .i64 0, .int .i64 0] 55) ∧ (j ≤ i) ∧ m = rows.length - j ∧ l = [(0, .pointer (some ⟨C, 0, none⟩)), (1, .slice a xs.length cap), (4, .pointer (some ⟨h.size, 0, none⟩)), (5, .int .i64 (i : Int)), (6, .int .i64 (j : Int))] ∧ hk = h') _ ⟨0, 0, hA, sl, by omega, by simp [flatR], ks, by simp, hEA, hRA, by omega, rfl, rfl, rfl⟩ ?_
  rintro m l h' ⟨j, i, hk, slk, hj, hi, hks, hfo, hEk, hRk, hjx, rfl, rfl, rfl⟩ K4 hK4
  refine V_seq (fun K5 hK5 => ?_)
  refine V_sr T.mix (by kernel_rfl) (fun K6 hK6 => ?_)
  refine S_mv rfl ?_
  refine S_mv rfl ?_
  refine S_lenl T.el59 rfl ?_
  refine S_bin rfl rfl rfl ?_
  refine S_nil (hK6 _ _ (V_keep [0, 1, 4, 5, 6, 12] (by simp only [proj, lk, reduceIte, Nat.reduceEqDiff]; rfl) ?_)); clear hK6
  refine V_condp rfl (fun c87 => ?_) (fun c87 => ?_)
  · skip
    refine V_skipk [0, 1, 4, 5, 6] (by simp only [proj, lk, reduceIte, Nat.reduceEqDiff]; rfl) ?_
    refine hK5 _ _ ?_; clear hK5
    refine V_block ?_
    refine V_sr T.mix (by kernel_rfl) (fun K7 hK7 => ?_)
    refine S_mv rfl ?_
    refine S_mv rfl ?_
    refine S_call T.hb48 rfl ?_
    have hjl : j < rows.length := (flat_lt hj).1 (by rw [← hx, ← hi]; omega)
    have hnj := hn _ (rmem hjl)
    have h9 := read_spec hk a cap xs (ho.ext hEk (fun z e w => hbc (by rw [e, w]))) hl (flatR (rows.take j)) (rows.getD j (false, [])) (flatR (rows.drop (j + 1))) (by rw [hx]; exact flat_split rows hjl) hnj
    rw [← hi] at h9
    refine FC.mono h9 ?_
    rintro v' h2 ⟨rfl, hE2⟩
    have hCk := hks.lt
    have hk2l := hE2.1
    have hrj : rows[j] = (rows.getD j (false, [])) := by simp [hjl]
    refine S_allocA T.z101 ?_
    generalize hh : Array.push h2 _ = h3
    have hq3 : B h3 h2.size #[.int .u16 0, .int .u16 0, .bool false, .int .i64 0] 101 := by rw [← hh]; exact B.new _ _ _
    have hEh3 : Ext (fun _ => False) h2 h3 := by rw [← hh]; exact Ext.push _ _ _
    have hsh3 : h3.size = h2.size + 1 := by rw [← hh]; simp
    clear hh
    try clear q0 q1 q2 q3 hqok
    obtain ⟨q0, q1, q2, q3, hqok⟩ := rq (hq3)
    refine S_stl T.sz101 rfl rfl rfl rfl (fun j hj => by simp (disch := omega) only [hqok]) ?_
    generalize hh : putsH _ _ _ _ = h4
    have hq4 : B h4 (h2.size) #[.int .u16 ((pM (rows.getD j (false, [])).2 : Nat)), .int .u16 ((nM (rows.getD j (false, [])).2 : Nat)), .bool (rows.getD j (false, [])).1, .int .i64 ((i + (oneR (rows.getD j (false, []))).length : Nat))] 101 := by rw [← hh]; exact B.puts_all (hq3) (cs' := #[.int .u16 ((pM (rows.getD j (false, [])).2 : Nat)), .int .u16 ((nM (rows.getD j (false, [])).2 : Nat)), .bool (rows.getD j (false, [])).1, .int .i64 ((i + (oneR (rows.getD j (false, []))).length : Nat))]) rfl
    have hEh4 : Ext (fun k => k = h2.size) h3 h4 := by rw [← hh]; exact Ext.puts (S := fun k => k = h2.size) rfl _ _ _
    clear hh
    try clear q0 q1 q2 q3 hqok
    obtain ⟨q0, q1, q2, q3, hqok⟩ := rq (hq4)
    refine S_nil (hK7 _ _ (V_keep [0, 1, 4, 6, 7] (by simp only [proj, lk, reduceIte, Nat.reduceEqDiff]; rfl) ?_)); clear hK7
    refine V_sr T.mix (by kernel_rfl) (fun K8 hK8 => ?_)
    refine S_mv rfl ?_
    refine S_ldnK T.ag101 rfl (fun K' hK' => ?_)
    simp (disch := omega) only [q0, q1, q2, q3, oPs_cons, oPs_nil, oP_some, Nat.reduceAdd, Nat.add_zero]
    refine hK' _ ?_; clear hK' K'
    refine S_call T.hb50 rfl ?_
    refine FC.mono (turn_spec h4 C X slk (((hks.ext hE2 (fun f => f)).ext hEh3 (fun f => f)).ext hEh4 (fun e => by omega)) (rows.getD j (false, [])) hnj _) ?_
    rintro v' h5 ⟨e, slk2, rfl, hks5, htn, hE5⟩
    try clear q0 q1 q2 q3 hqok
    obtain ⟨q0, q1, q2, q3, hqok⟩ := rq (hq4.ext hE5 (fun e => by omega))
    have hR5 := (((hRk.ext hE2 (fun f => f)).ext hEh3 (fun f => f)).ext hEh4 (fun e => by have := hRk.lt; omega)).ext hE5 (fun e => by omega)
    have hE5b := (((hEk.step hE2 (fun z hz f => f.elim)).step hEh3 (fun z hz f => f.elim)).step hEh4 (fun z hz e => by have := hEk.1; omega)).trans hE5
    refine S_as rfl ?_
    refine S_nil (hK8 _ _ (V_keep [0, 1, 4, 6, 7, 8] (by simp only [proj, lk, reduceIte, Nat.reduceEqDiff]; rfl) ?_)); clear hK8
    refine V_seq (fun K9 hK9 => ?_)
    refine V_sr T.mix (by kernel_rfl) (fun K10 hK10 => ?_)
    refine S_mv rfl ?_
    refine S_bin rfl rfl rfl ?_
    refine S_nil (hK10 _ _ (V_keep [0, 1, 4, 6, 7, 8, 20] (by simp only [proj, lk, reduceIte, Nat.reduceEqDiff]; rfl) ?_)); clear hK10
    refine V_condp rfl (fun c90 => ?_) (fun c90 => ?_)
    · skip
      refine V_sr T.mix (by kernel_rfl) (fun K11 hK11 => ?_)
      refine S_mv rfl ?_
      refine S_mv rfl ?_
      refine S_call T.hb29 rfl ?_
      refine FC.mono (refused_spec h5 e 2 j) ?_
      rintro v' h6 ⟨rfl, hEh6⟩
      have hRh6 := (hR5).ext hEh6 (fun f => f)
      have hRok : ∀ j, j < 3 → okPut h6 ⟨h.size, j, none⟩ = true := fun j hj => hRh6.ok (by simpa using hj)
      refine S_stl T.sz55 rfl rfl rfl rfl (fun j hj => by simp (disch := omega) only [hRok]) ?_
      generalize hh : putsH _ _ _ _ = h7
      have hR9 : B h7 (h.size) #[.int .i64 (e), .int .i64 (2), .int .i64 (j)] 55 := by rw [← hh]; exact B.puts_all (hRh6) (cs' := #[.int .i64 (e), .int .i64 (2), .int .i64 (j)]) rfl
      have hEh7 : Ext (fun k => k = h.size) h6 h7 := by rw [← hh]; exact Ext.puts (S := fun k => k = h.size) rfl _ _ _
      clear hh
      refine S_nil (hK11 _ _ (V_keep [4] (by simp only [proj, lk, reduceIte, Nat.reduceEqDiff]; rfl) ?_)); clear hK11
      refine V_ret ?_
      refine hR _ _ (retc1 rfl rfl T.ag55 hR9 (by rfl) ?_)
      obtain ⟨he, htf⟩ := htn.resolve_left (fun z => (by omega))
      have hf2 : (fol rows (rowsS sl 64) 0) = (e, j) := by rw [hfo, List.drop_eq_getElem_cons hjl, hrj]; exact htf _ _
      rw [hf2]
      refine ⟨?_, ⟨slk2, (hks5.ext hEh6 (fun f => f)).ext hEh7 (fun z => by omega)⟩, (hE5b.step hEh6 (fun z hz f => f.elim)).step hEh7 (fun z hz e => by omega)⟩
      simp only []
      rw [if_neg (show ¬ e = 0 by omega)]
    · skip
      refine V_skipk [0, 1, 4, 6, 7] (by simp only [proj, lk, reduceIte, Nat.reduceEqDiff]; rfl) ?_
      refine hK9 _ _ ?_; clear hK9
      refine V_sr T.mix (by kernel_rfl) (fun K12 hK12 => ?_)
      first | refine S_fa0 T.f101_3 rfl ?_ | refine S_fa T.f101_3 rfl ?_
      refine S_ldK T.ag3 rfl (fun K' hK' => ?_)
      simp (disch := omega) only [q0, q1, q2, q3, oP_some, Nat.add_zero]
      refine hK' _ ?_; clear hK' K'
      refine S_as rfl ?_
      refine S_nil (hK12 _ _ (V_keep [0, 1, 4, 5, 6] (by simp only [proj, lk, reduceIte, Nat.reduceEqDiff]; rfl) ?_)); clear hK12
      refine V_reg T.mix (by kernel_rfl) ?_
      refine S_mv rfl ?_
      first | refine S_add rfl rfl (by omega) (by omega) ?_ | refine S_bin rfl rfl rfl ?_
      refine S_as rfl ?_
      refine S_nilk [0, 1, 4, 5, 6] (by simp only [proj, lk, reduceIte, Nat.reduceEqDiff]; rfl) ?_
      exact hK4 _ _ ⟨_, by omega, j + 1, i + (oneR (rows.getD j (false, []))).length, h5, slk2, by omega, by rw [flat_next hjl, hi], hks5, by rw [hfo, List.drop_eq_getElem_cons hjl, hrj]; exact (htn.resolve_right (fun e => (by omega))).2 _ _, hE5b, hR5, by have := oneR_len (rows.getD j (false, [])); omega, rfl, rfl, rfl⟩
  · skip
    have hje : j = rows.length := by
      rcases Nat.lt_or_ge j rows.length with e | e
      · have h8 := (flat_lt hj).2 e
        rw [← hx, ← hi] at h8
        omega
      · omega
    rw [hje, List.drop_length] at hfo
    obtain ⟨Q, hB, hS⟩ := hks
    have hRok : ∀ j, j < 3 → okPut hk ⟨h.size, j, none⟩ = true := fun j hj => hRk.ok (by simpa using hj)
    refine V_exitk [0, 4, 6] rfl (by simp only [proj, lk, reduceIte, Nat.reduceEqDiff]; rfl) ?_
    refine hK3 _ _ ?_; clear hK3
    refine V_seq (fun K13 hK13 => ?_)
    refine V_sr T.mix (by kernel_rfl) (fun K14 hK14 => ?_)
    refine S_mv rfl ?_
    refine S_nc rfl ?_
    first | refine S_fa0 T.f47_4 rfl ?_ | refine S_fa T.f47_4 rfl ?_
    refine S_ldK T.ag3 rfl (fun K' hK' => ?_)
    simp (disch := omega) only [klEmp hB, oP_some, Nat.add_zero]
    refine hK' _ ?_; clear hK' K'
    refine S_bin rfl rfl rfl ?_
    refine S_nil (hK14 _ _ (V_keep [4, 6, 32] (by simp only [proj, lk, reduceIte, Nat.reduceEqDiff]; rfl) ?_)); clear hK14
    refine V_condp rfl (fun c96 => ?_) (fun c96 => ?_)
    · skip
      refine V_sr T.mix (by kernel_rfl) (fun K15 hK15 => ?_)
      refine S_mv rfl ?_
      refine S_call T.hb29 rfl ?_
      refine FC.mono (refused_spec hk 20 2 j) ?_
      rintro v' h6 ⟨rfl, hEh6⟩
      have hRh6 := (hRk).ext hEh6 (fun f => f)
      have hRok : ∀ j, j < 3 → okPut h6 ⟨h.size, j, none⟩ = true := fun j hj => hRh6.ok (by simpa using hj)
      refine S_stl T.sz55 rfl rfl rfl rfl (fun j hj => by simp (disch := omega) only [hRok]) ?_
      generalize hh : putsH _ _ _ _ = h7
      have hR9 : B h7 (h.size) #[.int .i64 (20), .int .i64 (2), .int .i64 (j)] 55 := by rw [← hh]; exact B.puts_all (hRh6) (cs' := #[.int .i64 (20), .int .i64 (2), .int .i64 (j)]) rfl
      have hEh7 : Ext (fun k => k = h.size) h6 h7 := by rw [← hh]; exact Ext.puts (S := fun k => k = h.size) rfl _ _ _
      clear hh
      refine S_nil (hK15 _ _ (V_keep [4] (by simp only [proj, lk, reduceIte, Nat.reduceEqDiff]; rfl) ?_)); clear hK15
      refine V_ret ?_
      refine hR _ _ (retc1 rfl rfl T.ag55 hR9 (by rfl) ?_)
      have hf2 : (fol rows (rowsS sl 64) 0) = (20, j) := by rw [hfo]; unfold fol; rw [if_neg (ecnt_pos.1 (by rw [← hS.em]; omega)), hje]
      rw [hf2]
      refine ⟨rfl, ⟨slk, KS.ext (KS.ext ⟨Q, hB, hS⟩ hEh6 (fun f => f)) hEh7 (fun z => by omega)⟩, (hEk.step hEh6 (fun z hz f => f.elim)).step hEh7 (fun z hz e => by omega)⟩
    · skip
      refine V_skipk [4] (by simp only [proj, lk, reduceIte, Nat.reduceEqDiff]; rfl) ?_
      refine hK13 _ _ ?_; clear hK13
      refine V_sr T.mix (by kernel_rfl) (fun K16 hK16 => ?_)
      refine S_bld rfl (T.bld55) ?_
      refine S_stl T.sz55 rfl rfl rfl rfl (fun j hj => by simp (disch := omega) only [hRok]) ?_
      generalize hh : putsH _ _ _ _ = h7
      have hR9 : B h7 (h.size) #[.int .i64 0, .int .i64 0, .int .i64 0] 55 := by rw [← hh]; exact B.puts_all (hRk) (cs' := #[.int .i64 0, .int .i64 0, .int .i64 0]) rfl
      have hEh7 : Ext (fun k => k = h.size) hk h7 := by rw [← hh]; exact Ext.puts (S := fun k => k = h.size) rfl _ _ _
      clear hh
      refine S_nil (hK16 _ _ (V_keep [4] (by simp only [proj, lk, reduceIte, Nat.reduceEqDiff]; rfl) ?_)); clear hK16
      refine V_ret ?_
      refine hR _ _ (retc1 rfl rfl T.ag55 hR9 (by rfl) ?_)
      have hf2 : (fol rows (rowsS sl 64) 0) = (0, 0) := by rw [hfo]; unfold fol; rw [if_pos (by by_cases z : [] ∈ rowsS slk 64; (exact z); (exact absurd (by rw [hS.em, ecnt_pos.2 z]; rfl) c96))]
      rw [hf2]
      refine ⟨rfl, ⟨slk, KS.ext ⟨Q, hB, hS⟩ hEh7 (fun z => by omega)⟩, hEk.step hEh7 (fun z hz e => by omega)⟩
end Go.Proofs.Qxb6500398a
