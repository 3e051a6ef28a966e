import Derived.Test.Qxb6500409aGreatSg
set_option linter.unusedVariables false
set_option linter.unusedSimpArgs false
namespace Go.Proofs.Qxb6500409aGreat
open Go.Eng Go.Bits Go.Blk HufW

theorem mkS_bA (l : List Int) (i : Nat) : (mkS l).data[i]? = (l[i]?).map fun n => UInt8.ofNat n.toNat := by
  unfold mkS; simp
theorem mkS_app (a b : List Int) : mkS (a ++ b) = mkS a ++ mkS b := by
  apply ByteArray.ext
  rw [ByteArray.data_append]
  unfold mkS; simp
theorem mkS_drop (l : List Int) (n : Nat) : (mkS l).extract n (mkS l).size = mkS (l.drop n) := by
  apply ByteArray.ext
  rw [ByteArray.data_extract]
  apply Array.ext_getElem?
  intro i
  rw [mkS_bA, Array.getElem?_extract, mkS_bA, List.getElem?_drop, mkS_size]
  have hd : (mkS l).data.size = l.length := mkS_size l
  rw [hd, Nat.min_self]
  by_cases h : i < l.length - n
  · rw [if_pos h]
  · rw [if_neg h, List.getElem?_eq_none (by omega)]; rfl
def nxN (raw ch : ByteArray) (st n : Nat) : Nat := if st = 0 ∧ raw.size + ch.size ≤ 512 then (ruF (raw ++ ch)).out.length else n
theorem nxN_eq (raw ch : ByteArray) (st : Nat) (out : List Int) : nxN raw ch st out.length = (nxO raw ch st out).length := by unfold nxN nxO; split <;> rfl
def mcs (raw : ByteArray) (n st : Nat) : Array Value := #[.string raw, .int .i64 (n : Int), .int .i64 (st : Int)]
theorem mq {h : Heap} {M n st : Nat} {raw : ByteArray} {t : TypeId} (b : B h M (mcs raw n st) t) : cellH h ⟨M, 0, none⟩ = some (.string raw) ∧ cellH h ⟨M, 1, none⟩ = some (.int .i64 (n : Int)) ∧ cellH h ⟨M, 2, none⟩ = some (.int .i64 (st : Int)) ∧ ∀ j, j < 3 → okPut h ⟨M, j, none⟩ = true := ⟨b.cell 0, b.cell 1, b.cell 2, fun j hj => b.ok (by simpa [mcs] using hj)⟩
theorem mnx {raw ch : ByteArray} {l : Bool} {n : Nat} (hz : raw.size + ch.size ≤ 512) : nxR raw ch 0 = raw ++ ch ∧ nxN raw ch 0 n = (ruF (raw ++ ch)).out.length ∧ nxT raw ch 0 l = stS (ruF (raw ++ ch)).e l ∧ stpV raw ch 0 l n = #[.string (mkS ((ruF (raw ++ ch)).out.drop n)), .int .i64 ((stS (ruF (raw ++ ch)).e l : Nat) : Int), .int .i64 ((if stS (ruF (raw ++ ch)).e l = 2 then (ruF (raw ++ ch)).e else 0 : Nat) : Int), .int .i64 ((if stS (ruF (raw ++ ch)).e l = 2 then (ruF (raw ++ ch)).pl else 0 : Nat) : Int)] := by
  refine ⟨?_, ?_, ?_, ?_⟩
  · unfold nxR; rw [if_pos ⟨rfl, hz⟩]
  · unfold nxN; rw [if_pos ⟨rfl, hz⟩]
  · unfold nxT; rw [if_neg (by omega), if_neg (by omega)]
  · unfold stpV; rw [if_neg (by omega), if_neg (by omega)]
theorem nxN_no {raw ch : ByteArray} {st n : Nat} (h : ¬ (st = 0 ∧ raw.size + ch.size ≤ 512)) : nxN raw ch st n = n := if_neg h
theorem stS1 {e : Nat} {l : Bool} (h : e = 0) (hl : l = true) : stS e l = 1 := by unfold stS; rw [if_pos ⟨h, hl⟩]
theorem stS0 {e : Nat} {l : Bool} (h : e = 0 ∨ e = 4) (hl : l = false) : stS e l = 0 := by unfold stS; rw [if_neg (by rw [hl]; simp), if_pos ⟨hl, h⟩]
theorem stS2 {e : Nat} {l : Bool} (he : e ≠ 0) (hl : l = true ∨ e ≠ 4) : stS e l = 2 := by
  unfold stS
  rw [if_neg (fun z => he z.1), if_neg (fun z => by rcases hl with q | q; (rw [q] at z; cases z.1); (omega))]
set_option maxHeartbeats 400000 in
theorem mnew_spec (h : Heap) :
    FC Tryz.prog 9 (#[] : Array Value) h fun rv h' => rv = .pointer (some ⟨h.size, 0, none⟩) ∧ B h' h.size (mcs ⟨#[]⟩ 0 0) 52 ∧ Ext (fun _ => False) h h' := by
  refine FC_of [] Tryz.func9 rfl Tryz.ntmps9 (by simp) rfl (fun R hR => ?_)
  refine V_sr T.mix (by kernel_rfl) (fun K1 hK1 => ?_)
  refine S_as rfl ?_
  refine S_nil (hK1 _ _ (V_keep [] (by simp only [proj, lk, reduceIte, Nat.reduceEqDiff]; rfl) ?_)); clear hK1
  refine V_sr T.mix (by kernel_rfl) (fun K2 hK2 => ?_)
  refine S_bld rfl (T.bld52) ?_
  refine S_boxA rfl ?_
  generalize hh : Array.push h _ = g0
  have bt0 : B g0 h.size (mcs ⟨#[]⟩ 0 0) 52 := by rw [← hh]; exact B.new _ _ _
  have hEg0 : Ext (fun _ => False) h g0 := by rw [← hh]; exact Ext.push _ _ _
  clear hh
  refine S_as rfl ?_
  refine S_nil (hK2 _ _ (V_keep [0] (by simp only [proj, lk, reduceIte, Nat.reduceEqDiff]; rfl) ?_)); clear hK2
  refine V_ret ?_
  refine hR _ _ (ret1 rfl rfl ?_)
  exact ⟨rfl, bt0, hEg0⟩
set_option maxHeartbeats 400000 in
theorem mreset_spec (h : Heap) (M : Nat) (raw : ByteArray) (n st : Nat) (mb : B h M (mcs raw n st) 52) :
    FC Tryz.prog 31 (#[.pointer (some ⟨M, 0, none⟩)] : Array Value) h fun rv h' => rv = .tuple #[] ∧ B h' M (mcs ⟨#[]⟩ 0 0) 52 ∧ Ext (fun z => z = M) h h' := by
  try clear u0 u1 u2 mok
  obtain ⟨u0, u1, u2, mok⟩ := mq (mb)
  refine FC_of [(0, .pointer (some ⟨M, 0, none⟩))] Tryz.func31 rfl Tryz.ntmps31 (by simp) rfl (fun R hR => ?_)
  refine V_sr T.mix (by kernel_rfl) (fun K1 hK1 => ?_)
  refine S_mv rfl ?_
  refine S_nc rfl ?_
  first | refine S_fa0 T.f52_0 rfl ?_ | refine S_fa T.f52_0 rfl ?_
  refine S_st T.sz9 rfl rfl rfl rfl (by simp (disch := omega) only [mok]) ?_
  generalize hh : putH _ _ _ = h1
  have b1 : B h1 M (mcs ⟨#[]⟩ n st) 52 := by rw [← hh]; exact (mb.put 0 _).cong (by simp [mcs])
  have hEh1 : Ext (fun z => z = M) h h1 := by rw [← hh]; exact Ext.put _ _ rfl
  clear hh
  try clear u0 u1 u2 mok
  obtain ⟨u0, u1, u2, mok⟩ := mq (b1)
  refine S_nil (hK1 _ _ (V_keep [0] (by simp only [proj, lk, reduceIte, Nat.reduceEqDiff]; rfl) ?_)); clear hK1
  refine V_sr T.mix (by kernel_rfl) (fun K2 hK2 => ?_)
  refine S_mv rfl ?_
  refine S_nc rfl ?_
  first | refine S_fa0 T.f52_1 rfl ?_ | refine S_fa T.f52_1 rfl ?_
  refine S_st T.sz3 rfl rfl rfl rfl (by simp (disch := omega) only [mok]) ?_
  generalize hh : putH _ _ _ = h2
  have b2 : B h2 M (mcs ⟨#[]⟩ 0 st) 52 := by rw [← hh]; exact (b1.put 1 _).cong (by simp [mcs])
  have hEh2 : Ext (fun z => z = M) h1 h2 := by rw [← hh]; exact Ext.put _ _ rfl
  clear hh
  try clear u0 u1 u2 mok
  obtain ⟨u0, u1, u2, mok⟩ := mq (b2)
  refine S_nil (hK2 _ _ (V_keep [0] (by simp only [proj, lk, reduceIte, Nat.reduceEqDiff]; rfl) ?_)); clear hK2
  refine V_reg T.mix (by kernel_rfl) ?_
  refine S_mv rfl ?_
  refine S_nc rfl ?_
  first | refine S_fa0 T.f52_2 rfl ?_ | refine S_fa T.f52_2 rfl ?_
  refine S_st T.sz3 rfl rfl rfl rfl (by simp (disch := omega) only [mok]) ?_
  generalize hh : putH _ _ _ = h3
  have b3 : B h3 M (mcs ⟨#[]⟩ 0 0) 52 := by rw [← hh]; exact (b2.put 2 _).cong (by simp [mcs])
  have hEh3 : Ext (fun z => z = M) h2 h3 := by rw [← hh]; exact Ext.put _ _ rfl
  clear hh
  try clear u0 u1 u2 mok
  obtain ⟨u0, u1, u2, mok⟩ := mq (b3)
  refine S_nilk [] (by simp only [proj, lk, reduceIte, Nat.reduceEqDiff]; rfl) ?_
  -- end
  refine hR _ _ (ret0 rfl ?_)
  exact ⟨rfl, b3, (hEh1.trans hEh2).trans hEh3⟩
set_option maxHeartbeats 400000 in
theorem mstate_spec (h : Heap) (M : Nat) (raw : ByteArray) (n st : Nat) (mb : B h M (mcs raw n st) 52) :
    FC Tryz.prog 19 (#[.pointer (some ⟨M, 0, none⟩)] : Array Value) h fun rv h' => rv = .int .i64 (st : Int) ∧ h = h' := by
  try clear u0 u1 u2 mok
  obtain ⟨u0, u1, u2, mok⟩ := mq (mb)
  refine FC_of [(0, .pointer (some ⟨M, 0, none⟩))] Tryz.func19 rfl Tryz.ntmps19 (by simp) rfl (fun R hR => ?_)
  refine V_sr T.mix (by kernel_rfl) (fun K1 hK1 => ?_)
  refine S_as rfl ?_
  refine S_nil (hK1 _ _ (V_keep [0] (by simp only [proj, lk, reduceIte, Nat.reduceEqDiff]; rfl) ?_)); clear hK1
  refine V_sr T.mix (by kernel_rfl) (fun K2 hK2 => ?_)
  refine S_mv rfl ?_
  refine S_nc rfl ?_
  first | refine S_fa0 T.f52_2 rfl ?_ | refine S_fa T.f52_2 rfl ?_
  refine S_ldK T.ag3 rfl (fun K' hK' => ?_)
  simp (disch := omega) only [u0, u1, u2, oP_some, Nat.add_zero]
  refine hK' _ ?_; clear hK' K'
  refine S_as rfl ?_
  refine S_nil (hK2 _ _ (V_keep [2] (by simp only [proj, lk, reduceIte, Nat.reduceEqDiff]; rfl) ?_)); clear hK2
  refine V_ret ?_
  refine hR _ _ (ret1 rfl rfl ?_)
  exact ⟨rfl, rfl⟩
set_option maxHeartbeats 400000 in
theorem mtotal_spec (h : Heap) (M : Nat) (raw : ByteArray) (n st : Nat) (mb : B h M (mcs raw n st) 52) :
    FC Tryz.prog 33 (#[.pointer (some ⟨M, 0, none⟩)] : Array Value) h fun rv h' => rv = .int .i64 (n : Int) ∧ h = h' := by
  try clear u0 u1 u2 mok
  obtain ⟨u0, u1, u2, mok⟩ := mq (mb)
  refine FC_of [(0, .pointer (some ⟨M, 0, none⟩))] Tryz.func33 rfl Tryz.ntmps33 (by simp) rfl (fun R hR => ?_)
  refine V_sr T.mix (by kernel_rfl) (fun K1 hK1 => ?_)
  refine S_as rfl ?_
  refine S_nil (hK1 _ _ (V_keep [0] (by simp only [proj, lk, reduceIte, Nat.reduceEqDiff]; rfl) ?_)); clear hK1
  refine V_sr T.mix (by kernel_rfl) (fun K2 hK2 => ?_)
  refine S_mv rfl ?_
  refine S_nc rfl ?_
  first | refine S_fa0 T.f52_1 rfl ?_ | refine S_fa T.f52_1 rfl ?_
  refine S_ldK T.ag3 rfl (fun K' hK' => ?_)
  simp (disch := omega) only [u0, u1, u2, oP_some, Nat.add_zero]
  refine hK' _ ?_; clear hK' K'
  refine S_as rfl ?_
  refine S_nil (hK2 _ _ (V_keep [2] (by simp only [proj, lk, reduceIte, Nat.reduceEqDiff]; rfl) ?_)); clear hK2
  refine V_ret ?_
  refine hR _ _ (ret1 rfl rfl ?_)
  exact ⟨rfl, rfl⟩
set_option maxHeartbeats 400000 in
theorem mfed_spec (h : Heap) (M : Nat) (raw : ByteArray) (n st : Nat) (mb : B h M (mcs raw n st) 52) :
    FC Tryz.prog 32 (#[.pointer (some ⟨M, 0, none⟩)] : Array Value) h fun rv h' => rv = .int .i64 (raw.size : Int) ∧ h = h' := by
  try clear u0 u1 u2 mok
  obtain ⟨u0, u1, u2, mok⟩ := mq (mb)
  refine FC_of [(0, .pointer (some ⟨M, 0, none⟩))] Tryz.func32 rfl Tryz.ntmps32 (by simp) rfl (fun R hR => ?_)
  refine V_sr T.mix (by kernel_rfl) (fun K1 hK1 => ?_)
  refine S_as rfl ?_
  refine S_nil (hK1 _ _ (V_keep [0] (by simp only [proj, lk, reduceIte, Nat.reduceEqDiff]; rfl) ?_)); clear hK1
  refine V_sr T.mix (by kernel_rfl) (fun K2 hK2 => ?_)
  refine S_mv rfl ?_
  refine S_nc rfl ?_
  first | refine S_fa0 T.f52_0 rfl ?_ | refine S_fa T.f52_0 rfl ?_
  refine S_ldK T.ag9 rfl (fun K' hK' => ?_)
  simp (disch := omega) only [u0, u1, u2, oP_some, Nat.add_zero]
  refine hK' _ ?_; clear hK' K'
  refine S_lens T.kd9 rfl ?_
  refine S_as rfl ?_
  refine S_nil (hK2 _ _ (V_keep [2] (by simp only [proj, lk, reduceIte, Nat.reduceEqDiff]; rfl) ?_)); clear hK2
  refine V_ret ?_
  refine hR _ _ (ret1 rfl rfl ?_)
  exact ⟨rfl, rfl⟩
set_option maxHeartbeats 400000 in
theorem srun_spec (h : Heap) (raw : ByteArray) :
    FC Tryz.prog 64 (#[.string raw] : Array Value) h fun rv h' => rv = .tuple #[.string (mkS (ruF raw).out), .int .i64 (((ruF raw).e : Nat) : Int), .int .i64 (((ruF raw).pl : Nat) : Int)] ∧ Ext (fun _ => False) h h' := by
  refine FC_of [(0, .string raw)] Tryz.func64 rfl Tryz.ntmps64 (by simp) rfl (fun R hR => ?_)
  refine V_sr T.mix (by kernel_rfl) (fun K1 hK1 => ?_)
  refine S_as rfl ?_
  refine S_as rfl ?_
  refine S_as rfl ?_
  refine S_nil (hK1 _ _ (V_keep [0] (by simp only [proj, lk, reduceIte, Nat.reduceEqDiff]; rfl) ?_)); clear hK1
  refine V_sr T.mix (by kernel_rfl) (fun K2 hK2 => ?_)
  refine S_mv rfl ?_
  refine S_call T.hb62 rfl ?_
  refine FC.mono (run_spec h raw) ?_
  rintro v' h1 ⟨rfl, hE1⟩
  refine S_ex rfl rfl ?_
  refine S_ex rfl rfl ?_
  refine S_ex rfl rfl ?_
  refine S_as rfl ?_
  refine S_as rfl ?_
  refine S_as rfl ?_
  refine S_nil (hK2 _ _ (V_keep [2, 3, 4] (by simp only [proj, lk, reduceIte, Nat.reduceEqDiff]; rfl) ?_)); clear hK2
  refine V_ret ?_
  refine hR _ _ (ret3 rfl rfl rfl rfl ?_)
  exact ⟨rfl, hE1⟩
set_option maxHeartbeats 400000 in
theorem spack_spec (h : Heap) (u : ByteArray) (level : Int) :
    FC Tryz.prog 26 (#[.string u, .int .i64 level] : Array Value) h fun rv h' => rv = .tuple #[.string (pkT u level), .int .i64 ((pkE u level : Nat) : Int)] ∧ Ext (fun _ => False) h h' := by
  refine FC_of [(0, .string u), (1, .int .i64 level)] Tryz.func26 rfl Tryz.ntmps26 (by simp) rfl (fun R hR => ?_)
  refine V_sr T.mix (by kernel_rfl) (fun K1 hK1 => ?_)
  refine S_as rfl ?_
  refine S_as rfl ?_
  refine S_nil (hK1 _ _ (V_keep [0, 1] (by simp only [proj, lk, reduceIte, Nat.reduceEqDiff]; rfl) ?_)); clear hK1
  refine V_sr T.mix (by kernel_rfl) (fun K2 hK2 => ?_)
  refine S_call T.hb41 rfl ?_
  refine FC.mono (mbnew_spec h) ?_
  rintro v' h1 ⟨rfl, ⟨zz, kk, bp⟩, hE1⟩
  refine S_as rfl ?_
  refine S_nil (hK2 _ _ (V_keep [0, 1, 6] (by simp only [proj, lk, reduceIte, Nat.reduceEqDiff]; rfl) ?_)); clear hK2
  refine V_sr T.mix (by kernel_rfl) (fun K3 hK3 => ?_)
  refine S_mv rfl ?_
  refine S_mv rfl ?_
  refine S_mv rfl ?_
  refine S_call T.hb42 rfl ?_
  refine FC.mono (mpack_spec h1 h.size zz kk bp u level) ?_
  rintro v' h2 ⟨rfl, hE2⟩
  refine S_ex rfl rfl ?_
  refine S_ex rfl rfl ?_
  refine S_as rfl ?_
  refine S_as rfl ?_
  refine S_nil (hK3 _ _ (V_keep [4, 5] (by simp only [proj, lk, reduceIte, Nat.reduceEqDiff]; rfl) ?_)); clear hK3
  refine V_ret ?_
  refine hR _ _ (ret2 rfl rfl rfl ?_)
  exact ⟨rfl, hE1.trans hE2⟩
set_option maxHeartbeats 3200000 in
theorem mfeed_spec (h : Heap) (M : Nat) (raw : ByteArray) (n st : Nat) (mb : B h M (mcs raw n st) 52) (ch : ByteArray) (lst : Bool) (hz0 : raw.size ≤ 512) (hp0 : st = 0 → raw.size + ch.size ≤ 512 → n ≤ (ruF (raw ++ ch)).out.length) :
    FC Tryz.prog 44 (#[.pointer (some ⟨M, 0, none⟩), .string ch, .bool lst] : Array Value) h fun rv h' => rv = .agg (stpV raw ch st lst n) ∧ B h' M (mcs (nxR raw ch st) (nxN raw ch st n) (nxT raw ch st lst)) 52 ∧ Ext (fun z => z = M) h h' := by
  try clear u0 u1 u2 mok
  obtain ⟨u0, u1, u2, mok⟩ := mq (mb)
  have hMl := mb.lt
  refine FC_of [(0, .pointer (some ⟨M, 0, none⟩)), (1, .string ch), (2, .bool lst)] Tryz.func44 rfl Tryz.ntmps44 (by simp) rfl (fun R hR => ?_)
  refine V_sr T.mix (by kernel_rfl) (fun K1 hK1 => ?_)
  refine S_allocA T.z72 ?_
  generalize hh : Array.push h _ = hA
  have hRA : B hA h.size #[.string ⟨#[]⟩, .int .i64 0, .int .i64 0, .int .i64 0] 72 := by rw [← hh]; exact B.new _ _ _
  have hEhA : Ext (fun _ => False) h hA := by rw [← hh]; exact Ext.push _ _ _
  clear hh
  have mA := mb.ext hEhA (fun f => f)
  have hXA : Ext (fun z => z = M) h hA := hEhA.mono (fun _ f => f.elim)
  try clear u0 u1 u2 mok
  obtain ⟨u0, u1, u2, mok⟩ := mq (mA)
  try clear hRok
  have hRok : ∀ j, j < 4 → okPut hA ⟨h.size, j, none⟩ = true := fun j hj => hRA.ok (by simpa using hj)
  refine S_nil (hK1 _ _ (V_keep [0, 1, 2, 6] (by simp only [proj, lk, reduceIte, Nat.reduceEqDiff]; rfl) ?_)); clear hK1
  refine V_seq (fun K2 hK2 => ?_)
  refine V_sr T.mix (by kernel_rfl) (fun K3 hK3 => ?_)
  refine S_mv rfl ?_
  refine S_nc rfl ?_
  first | refine S_fa0 T.f52_2 rfl ?_ | refine S_fa T.f52_2 rfl ?_
  refine S_ldK T.ag3 rfl (fun K' hK' => ?_)
  simp (disch := omega) only [u0, u1, u2, oP_some, Nat.add_zero]
  refine hK' _ ?_; clear hK' K'
  refine S_bin rfl rfl rfl ?_
  refine S_nil (hK3 _ _ (V_keep [0, 1, 2, 6, 15] (by simp only [proj, lk, reduceIte, Nat.reduceEqDiff]; rfl) ?_)); clear hK3
  refine V_condp rfl (fun c24 => ?_) (fun c24 => ?_)
  · skip
    refine V_sr T.mix (by kernel_rfl) (fun K4 hK4 => ?_)
    refine S_bld rfl (T.bld72_1_2 _ _) ?_
    refine S_stl T.sz72 rfl rfl rfl rfl (fun j hj => by simp (disch := omega) only [hRok]) ?_
    generalize hh : putsH _ _ _ _ = h9
    have hR9 : B h9 (h.size) #[.string ⟨#[]⟩, .int .i64 2, .int .i64 12, .int .i64 0] 72 := by rw [← hh]; exact puts_all (hRA) (cs' := #[.string ⟨#[]⟩, .int .i64 2, .int .i64 12, .int .i64 0]) rfl
    have hEh9 : Ext (fun k => k = h.size) hA h9 := by rw [← hh]; exact Ext.puts (S := fun k => k = h.size) rfl _ _ _
    clear hh
    refine S_nil (hK4 _ _ (V_keep [6] (by simp only [proj, lk, reduceIte, Nat.reduceEqDiff]; rfl) ?_)); clear hK4
    refine V_ret ?_
    refine hR _ _ (retc1 rfl rfl T.ag72 hR9 (by rfl) ?_)
    have hst : st ≠ 0 := by omega
    obtain ⟨z1, z2, z3, z4⟩ := st_ref (raw := raw) (ch := ch) (l := lst) (n := n) (out := []) hst
    rw [z1, z2, z4, nxN_no (fun z => hst z.1)]
    exact ⟨rfl, mA.ext hEh9 (fun w => by omega), hXA.step hEh9 (fun z hz e => by omega)⟩
  · skip
    have hst : st = 0 := by omega
    subst hst
    refine V_skipk [0, 1, 2, 6] (by simp only [proj, lk, reduceIte, Nat.reduceEqDiff]; rfl) ?_
    refine hK2 _ _ ?_; clear hK2
    refine V_seq (fun K5 hK5 => ?_)
    refine V_sr T.mix (by kernel_rfl) (fun K6 hK6 => ?_)
    refine S_mv rfl ?_
    refine S_lens T.kd9 rfl ?_
    refine S_mv rfl ?_
    refine S_nc rfl ?_
    first | refine S_fa0 T.f52_0 rfl ?_ | refine S_fa T.f52_0 rfl ?_
    refine S_ldK T.ag9 rfl (fun K' hK' => ?_)
    simp (disch := omega) only [u0, u1, u2, oP_some, Nat.add_zero]
    refine hK' _ ?_; clear hK' K'
    refine S_lens T.kd9 rfl ?_
    refine S_subN (512 - raw.size) rfl rfl (by omega) (by omega) ?_
    refine S_bin rfl rfl rfl ?_
    refine S_nil (hK6 _ _ (V_keep [0, 1, 2, 6, 25] (by simp only [proj, lk, reduceIte, Nat.reduceEqDiff]; rfl) ?_)); clear hK6
    refine V_condp rfl (fun c27 => ?_) (fun c27 => ?_)
    · skip
      refine V_sr T.mix (by kernel_rfl) (fun K7 hK7 => ?_)
      refine S_mv rfl ?_
      refine S_nc rfl ?_
      first | refine S_fa0 T.f52_2 rfl ?_ | refine S_fa T.f52_2 rfl ?_
      refine S_st T.sz3 rfl rfl rfl rfl (by simp (disch := omega) only [mok]) ?_
      generalize hh : putH _ _ _ = h1
      have b1 : B h1 M (mcs raw n 2) 52 := by rw [← hh]; exact (mA.put 2 _).cong (by simp [mcs])
      have hEh1 : Ext (fun z => z = M) hA h1 := by rw [← hh]; exact Ext.put _ _ rfl
      clear hh
      try clear u0 u1 u2 mok
      obtain ⟨u0, u1, u2, mok⟩ := mq (b1)
      have hR1 := (hRA).ext hEh1 (fun w => by omega)
      try clear hRok
      have hRok : ∀ j, j < 4 → okPut h1 ⟨h.size, j, none⟩ = true := fun j hj => hR1.ok (by simpa using hj)
      refine S_nil (hK7 _ _ (V_keep [6] (by simp only [proj, lk, reduceIte, Nat.reduceEqDiff]; rfl) ?_)); clear hK7
      refine V_sr T.mix (by kernel_rfl) (fun K8 hK8 => ?_)
      refine S_bld rfl (T.bld72_1_2 _ _) ?_
      refine S_stl T.sz72 rfl rfl rfl rfl (fun j hj => by simp (disch := omega) only [hRok]) ?_
      generalize hh : putsH _ _ _ _ = h9
      have hR9 : B h9 (h.size) #[.string ⟨#[]⟩, .int .i64 2, .int .i64 1, .int .i64 0] 72 := by rw [← hh]; exact puts_all (hR1) (cs' := #[.string ⟨#[]⟩, .int .i64 2, .int .i64 1, .int .i64 0]) rfl
      have hEh9 : Ext (fun k => k = h.size) h1 h9 := by rw [← hh]; exact Ext.puts (S := fun k => k = h.size) rfl _ _ _
      clear hh
      refine S_nil (hK8 _ _ (V_keep [6] (by simp only [proj, lk, reduceIte, Nat.reduceEqDiff]; rfl) ?_)); clear hK8
      refine V_ret ?_
      refine hR _ _ (retc1 rfl rfl T.ag72 hR9 (by rfl) ?_)
      obtain ⟨z1, z2, z3, z4⟩ := st_lng (raw := raw) (ch := ch) (l := lst) (n := n) (out := []) (by omega)
      rw [z1, z2, z4, nxN_no (by omega)]
      exact ⟨rfl, b1.ext hEh9 (fun w => by omega), (hXA.trans hEh1).step hEh9 (fun z hz e => by omega)⟩
    · skip
      have hfit : raw.size + ch.size ≤ 512 := by omega
      refine V_skipk [0, 1, 2, 6] (by simp only [proj, lk, reduceIte, Nat.reduceEqDiff]; rfl) ?_
      refine hK5 _ _ ?_; clear hK5
      refine V_sr T.mix (by kernel_rfl) (fun K9 hK9 => ?_)
      refine S_mv rfl ?_
      refine S_mv rfl ?_
      refine S_nc rfl ?_
      first | refine S_fa0 T.f52_0 rfl ?_ | refine S_fa T.f52_0 rfl ?_
      refine S_ldK T.ag9 rfl (fun K' hK' => ?_)
      simp (disch := omega) only [u0, u1, u2, oP_some, Nat.add_zero]
      refine hK' _ ?_; clear hK' K'
      refine S_mv rfl ?_
      refine S_bin rfl rfl (strV_add (by omega)) ?_
      refine S_nc rfl ?_
      first | refine S_fa0 T.f52_0 rfl ?_ | refine S_fa T.f52_0 rfl ?_
      refine S_st T.sz9 rfl rfl rfl rfl (by simp (disch := omega) only [mok]) ?_
      generalize hh : putH _ _ _ = h1
      have b1 : B h1 M (mcs (raw ++ ch) n 0) 52 := by rw [← hh]; exact (mA.put 0 _).cong (by simp [mcs])
      have hEh1 : Ext (fun z => z = M) hA h1 := by rw [← hh]; exact Ext.put _ _ rfl
      clear hh
      try clear u0 u1 u2 mok
      obtain ⟨u0, u1, u2, mok⟩ := mq (b1)
      have hR1 := (hRA).ext hEh1 (fun w => by omega)
      refine S_nil (hK9 _ _ (V_keep [0, 2, 6] (by simp only [proj, lk, reduceIte, Nat.reduceEqDiff]; rfl) ?_)); clear hK9
      refine V_sr T.mix (by kernel_rfl) (fun K10 hK10 => ?_)
      refine S_mv rfl ?_
      refine S_nc rfl ?_
      first | refine S_fa0 T.f52_0 rfl ?_ | refine S_fa T.f52_0 rfl ?_
      refine S_ldK T.ag9 rfl (fun K' hK' => ?_)
      simp (disch := omega) only [u0, u1, u2, oP_some, Nat.add_zero]
      refine hK' _ ?_; clear hK' K'
      refine S_call T.hb62 rfl ?_
      refine FC.mono (run_spec h1 (raw ++ ch)) ?_
      rintro v' h2 ⟨rfl, hE2⟩
      have b2 := b1.ext hE2 (fun f => f)
      have hR2 := (hR1).ext hE2 (fun f => f)
      obtain ⟨n1, n2, n3, n4⟩ := mnx (l := lst) (n := n) hfit
      have hp1 := hp0 rfl hfit
      try clear u0 u1 u2 mok
      obtain ⟨u0, u1, u2, mok⟩ := mq (b2)
      refine S_mv rfl ?_
      refine S_ex rfl rfl ?_
      refine S_ex rfl rfl ?_
      refine S_ex rfl rfl ?_
      refine S_as rfl ?_
      refine S_as rfl ?_
      refine S_as rfl ?_
      refine S_nil (hK10 _ _ (V_keep [0, 2, 6, 7, 8, 9] (by simp only [proj, lk, reduceIte, Nat.reduceEqDiff]; rfl) ?_)); clear hK10
      refine V_sr T.mix (by kernel_rfl) (fun K11 hK11 => ?_)
      refine S_mv rfl ?_
      refine S_mv rfl ?_
      refine S_nc rfl ?_
      first | refine S_fa0 T.f52_1 rfl ?_ | refine S_fa T.f52_1 rfl ?_
      refine S_ldK T.ag3 rfl (fun K' hK' => ?_)
      simp (disch := omega) only [u0, u1, u2, oP_some, Nat.add_zero]
      refine hK' _ ?_; clear hK' K'
      refine S_sl rfl rfl rfl (sliceV_strlo T.kd9 (by omega) (by rw [mkS_size]; omega)) ?_
      rw [Int.toNat_natCast, mkS_drop]
      refine S_as rfl ?_
      refine S_nil (hK11 _ _ (V_keep [0, 2, 6, 7, 8, 9, 10] (by simp only [proj, lk, reduceIte, Nat.reduceEqDiff]; rfl) ?_)); clear hK11
      refine V_sr T.mix (by kernel_rfl) (fun K12 hK12 => ?_)
      refine S_mv rfl ?_
      refine S_mv rfl ?_
      refine S_lens T.kd9 rfl ?_
      rw [mkS_size]
      refine S_nc rfl ?_
      first | refine S_fa0 T.f52_1 rfl ?_ | refine S_fa T.f52_1 rfl ?_
      refine S_st T.sz3 rfl rfl rfl rfl (by simp (disch := omega) only [mok]) ?_
      generalize hh : putH _ _ _ = h3
      have b3 : B h3 M (mcs (raw ++ ch) (ruF (raw ++ ch)).out.length 0) 52 := by rw [← hh]; exact (b2.put 1 _).cong (by simp [mcs])
      have hEh3 : Ext (fun z => z = M) h2 h3 := by rw [← hh]; exact Ext.put _ _ rfl
      clear hh
      try clear u0 u1 u2 mok
      obtain ⟨u0, u1, u2, mok⟩ := mq (b3)
      have hR3 := (hR2).ext hEh3 (fun w => by omega)
      have hX3 : Ext (fun z => z = M) h h3 := ((hXA.trans hEh1).step hE2 (fun z hz f => f.elim)).trans hEh3
      try clear hRok
      have hRok : ∀ j, j < 4 → okPut h3 ⟨h.size, j, none⟩ = true := fun j hj => hR3.ok (by simpa using hj)
      refine S_nil (hK12 _ _ (V_keep [0, 2, 6, 8, 9, 10] (by simp only [proj, lk, reduceIte, Nat.reduceEqDiff]; rfl) ?_)); clear hK12
      refine V_seq (fun K13 hK13 => ?_)
      refine V_sr T.mix (by kernel_rfl) (fun K14 hK14 => ?_)
      refine S_mv rfl ?_
      refine S_bin rfl rfl rfl ?_
      refine S_mv rfl ?_
      refine S_dec (fun g35 => ?_) (fun g35 => ?_)
      · skip
        refine S_gt rfl ?_
        refine S_mv rfl ?_
        refine S_pt rfl rfl ?_
        refine S_nil (hK14 _ _ (V_keep [0, 2, 6, 8, 9, 10, 63] (by simp only [proj, lk, reduceIte, Nat.reduceEqDiff]; rfl) ?_)); clear hK14
        refine V_condb rfl (fun c35 => ?_) (fun c35 => ?_)
        · skip
          refine V_sr T.mix (by kernel_rfl) (fun K15 hK15 => ?_)
          refine S_mv rfl ?_
          refine S_nc rfl ?_
          first | refine S_fa0 T.f52_2 rfl ?_ | refine S_fa T.f52_2 rfl ?_
          refine S_st T.sz3 rfl rfl rfl rfl (by simp (disch := omega) only [mok]) ?_
          generalize hh : putH _ _ _ = h4
          have b4 : B h4 M (mcs (raw ++ ch) (ruF (raw ++ ch)).out.length 1) 52 := by rw [← hh]; exact (b3.put 2 _).cong (by simp [mcs])
          have hEh4 : Ext (fun z => z = M) h3 h4 := by rw [← hh]; exact Ext.put _ _ rfl
          clear hh
          try clear u0 u1 u2 mok
          obtain ⟨u0, u1, u2, mok⟩ := mq (b4)
          have hR4 := (hR3).ext hEh4 (fun w => by omega)
          try clear hRok
          have hRok : ∀ j, j < 4 → okPut h4 ⟨h.size, j, none⟩ = true := fun j hj => hR4.ok (by simpa using hj)
          refine S_nil (hK15 _ _ (V_keep [6, 10] (by simp only [proj, lk, reduceIte, Nat.reduceEqDiff]; rfl) ?_)); clear hK15
          refine V_sr T.mix (by kernel_rfl) (fun K16 hK16 => ?_)
          refine S_mv rfl ?_
          refine S_bld rfl (T.bld72_0_1 _ _) ?_
          refine S_stl T.sz72 rfl rfl rfl rfl (fun j hj => by simp (disch := omega) only [hRok]) ?_
          generalize hh : putsH _ _ _ _ = h9
          have hR9 : B h9 (h.size) #[.string (mkS ((ruF (raw ++ ch)).out.drop n)), .int .i64 1, .int .i64 0, .int .i64 0] 72 := by rw [← hh]; exact puts_all (hR4) (cs' := #[.string (mkS ((ruF (raw ++ ch)).out.drop n)), .int .i64 1, .int .i64 0, .int .i64 0]) rfl
          have hEh9 : Ext (fun k => k = h.size) h4 h9 := by rw [← hh]; exact Ext.puts (S := fun k => k = h.size) rfl _ _ _
          clear hh
          refine S_nil (hK16 _ _ (V_keep [6] (by simp only [proj, lk, reduceIte, Nat.reduceEqDiff]; rfl) ?_)); clear hK16
          refine V_ret ?_
          refine hR _ _ (retc1 rfl rfl T.ag72 hR9 (by rfl) ?_)
          first
            | (exfalso; revert g39; first | (revert c35; cases lst <;> simp; done) | (revert c35a; cases lst <;> simp; done))
            | (have hq0 : (ruF (raw ++ ch)).e = 0 := (by omega); have hq1 : lst = true := (by assumption); rw [n1, n2, n3, n4, stS1 hq0 hq1]; exact ⟨rfl, b4.ext hEh9 (fun w => by omega), (hX3.trans hEh4).step hEh9 (fun z hz e => by omega)⟩)
            | (have hq0 : (ruF (raw ++ ch)).e = 0 ∨ (ruF (raw ++ ch)).e = 4 := (by omega); have hq1 : lst = false := (by cases lst; (rfl); (simp at *)); rw [n1, n2, n3, n4, stS0 hq0 hq1]; exact ⟨rfl, b3.ext hEh9 (fun w => by omega), hX3.step hEh9 (fun z hz e => by omega)⟩)
            | (have hq0 : (ruF (raw ++ ch)).e ≠ 0 := (by omega); have hq1 : lst = true ∨ (ruF (raw ++ ch)).e ≠ 4 := (by first | exact .inr (by omega) | (left; cases lst; (simp at *); (rfl))); rw [n1, n2, n3, n4, stS2 hq0 hq1]; exact ⟨rfl, b4.ext hEh9 (fun w => by omega), (hX3.trans hEh4).step hEh9 (fun z hz e => by omega)⟩)
        · skip
          refine V_skipk [0, 2, 6, 8, 9, 10] (by simp only [proj, lk, reduceIte, Nat.reduceEqDiff]; rfl) ?_
          refine hK13 _ _ ?_; clear hK13
          refine V_seq (fun K17 hK17 => ?_)
          refine V_sr T.mix (by kernel_rfl) (fun K18 hK18 => ?_)
          refine S_mv rfl ?_
          refine S_notb rfl ?_
          refine S_mv rfl ?_
          refine S_decb (fun g39 => ?_) (fun g39 => ?_)
          · skip
            refine S_gt rfl ?_
            refine S_mv rfl ?_
            refine S_gt rfl ?_
            refine S_bin rfl rfl rfl ?_
            refine S_gt rfl ?_
            refine S_mv rfl ?_
            refine S_dec (fun g39a => ?_) (fun g39a => ?_)
            · skip
              refine S_gf rfl ?_
              refine S_gf rfl ?_
              refine S_gt rfl ?_
              refine S_pt rfl rfl ?_
              refine S_pt rfl rfl ?_
              refine S_nil (hK18 _ _ (V_keep [0, 6, 8, 9, 10, 78] (by simp only [proj, lk, reduceIte, Nat.reduceEqDiff]; rfl) ?_)); clear hK18
              refine V_condt rfl ?_
              refine V_sr T.mix (by kernel_rfl) (fun K19 hK19 => ?_)
              refine S_mv rfl ?_
              refine S_bld rfl (T.bld72_0_1 _ _) ?_
              refine S_stl T.sz72 rfl rfl rfl rfl (fun j hj => by simp (disch := omega) only [hRok]) ?_
              generalize hh : putsH _ _ _ _ = h9
              have hR9 : B h9 (h.size) #[.string (mkS ((ruF (raw ++ ch)).out.drop n)), .int .i64 0, .int .i64 0, .int .i64 0] 72 := by rw [← hh]; exact puts_all (hR3) (cs' := #[.string (mkS ((ruF (raw ++ ch)).out.drop n)), .int .i64 0, .int .i64 0, .int .i64 0]) rfl
              have hEh9 : Ext (fun k => k = h.size) h3 h9 := by rw [← hh]; exact Ext.puts (S := fun k => k = h.size) rfl _ _ _
              clear hh
              refine S_nil (hK19 _ _ (V_keep [6] (by simp only [proj, lk, reduceIte, Nat.reduceEqDiff]; rfl) ?_)); clear hK19
              refine V_ret ?_
              refine hR _ _ (retc1 rfl rfl T.ag72 hR9 (by rfl) ?_)
              first
                | (exfalso; revert g39; first | (revert c35; cases lst <;> simp; done) | (revert c35a; cases lst <;> simp; done))
                | (have hq0 : (ruF (raw ++ ch)).e = 0 := (by omega); have hq1 : lst = true := (by assumption); rw [n1, n2, n3, n4, stS1 hq0 hq1]; exact ⟨rfl, b4.ext hEh9 (fun w => by omega), (hX3.trans hEh4).step hEh9 (fun z hz e => by omega)⟩)
                | (have hq0 : (ruF (raw ++ ch)).e = 0 ∨ (ruF (raw ++ ch)).e = 4 := (by omega); have hq1 : lst = false := (by cases lst; (rfl); (simp at *)); rw [n1, n2, n3, n4, stS0 hq0 hq1]; exact ⟨rfl, b3.ext hEh9 (fun w => by omega), hX3.step hEh9 (fun z hz e => by omega)⟩)
                | (have hq0 : (ruF (raw ++ ch)).e ≠ 0 := (by omega); have hq1 : lst = true ∨ (ruF (raw ++ ch)).e ≠ 4 := (by first | exact .inr (by omega) | (left; cases lst; (simp at *); (rfl))); rw [n1, n2, n3, n4, stS2 hq0 hq1]; exact ⟨rfl, b4.ext hEh9 (fun w => by omega), (hX3.trans hEh4).step hEh9 (fun z hz e => by omega)⟩)
            · skip
              refine S_gt rfl ?_
              refine S_mv rfl ?_
              refine S_gt rfl ?_
              refine S_bin rfl rfl rfl ?_
              refine S_gt rfl ?_
              refine S_pf rfl rfl ?_
              refine S_pt rfl rfl ?_
              refine S_nil (hK18 _ _ (V_keep [0, 6, 8, 9, 10, 78] (by simp only [proj, lk, reduceIte, Nat.reduceEqDiff]; rfl) ?_)); clear hK18
              refine V_condp rfl (fun c39 => ?_) (fun c39 => ?_)
              · skip
                refine V_sr T.mix (by kernel_rfl) (fun K20 hK20 => ?_)
                refine S_mv rfl ?_
                refine S_bld rfl (T.bld72_0_1 _ _) ?_
                refine S_stl T.sz72 rfl rfl rfl rfl (fun j hj => by simp (disch := omega) only [hRok]) ?_
                generalize hh : putsH _ _ _ _ = h9
                have hR9 : B h9 (h.size) #[.string (mkS ((ruF (raw ++ ch)).out.drop n)), .int .i64 0, .int .i64 0, .int .i64 0] 72 := by rw [← hh]; exact puts_all (hR3) (cs' := #[.string (mkS ((ruF (raw ++ ch)).out.drop n)), .int .i64 0, .int .i64 0, .int .i64 0]) rfl
                have hEh9 : Ext (fun k => k = h.size) h3 h9 := by rw [← hh]; exact Ext.puts (S := fun k => k = h.size) rfl _ _ _
                clear hh
                refine S_nil (hK20 _ _ (V_keep [6] (by simp only [proj, lk, reduceIte, Nat.reduceEqDiff]; rfl) ?_)); clear hK20
                refine V_ret ?_
                refine hR _ _ (retc1 rfl rfl T.ag72 hR9 (by rfl) ?_)
                first
                  | (exfalso; revert g39; first | (revert c35; cases lst <;> simp; done) | (revert c35a; cases lst <;> simp; done))
                  | (have hq0 : (ruF (raw ++ ch)).e = 0 := (by omega); have hq1 : lst = true := (by assumption); rw [n1, n2, n3, n4, stS1 hq0 hq1]; exact ⟨rfl, b4.ext hEh9 (fun w => by omega), (hX3.trans hEh4).step hEh9 (fun z hz e => by omega)⟩)
                  | (have hq0 : (ruF (raw ++ ch)).e = 0 ∨ (ruF (raw ++ ch)).e = 4 := (by omega); have hq1 : lst = false := (by cases lst; (rfl); (simp at *)); rw [n1, n2, n3, n4, stS0 hq0 hq1]; exact ⟨rfl, b3.ext hEh9 (fun w => by omega), hX3.step hEh9 (fun z hz e => by omega)⟩)
                  | (have hq0 : (ruF (raw ++ ch)).e ≠ 0 := (by omega); have hq1 : lst = true ∨ (ruF (raw ++ ch)).e ≠ 4 := (by first | exact .inr (by omega) | (left; cases lst; (simp at *); (rfl))); rw [n1, n2, n3, n4, stS2 hq0 hq1]; exact ⟨rfl, b4.ext hEh9 (fun w => by omega), (hX3.trans hEh4).step hEh9 (fun z hz e => by omega)⟩)
              · skip
                refine V_skipk [0, 6, 8, 9, 10] (by simp only [proj, lk, reduceIte, Nat.reduceEqDiff]; rfl) ?_
                refine hK17 _ _ ?_; clear hK17
                refine V_sr T.mix (by kernel_rfl) (fun K21 hK21 => ?_)
                refine S_mv rfl ?_
                refine S_nc rfl ?_
                first | refine S_fa0 T.f52_2 rfl ?_ | refine S_fa T.f52_2 rfl ?_
                refine S_st T.sz3 rfl rfl rfl rfl (by simp (disch := omega) only [mok]) ?_
                generalize hh : putH _ _ _ = h4
                have b4 : B h4 M (mcs (raw ++ ch) (ruF (raw ++ ch)).out.length 2) 52 := by rw [← hh]; exact (b3.put 2 _).cong (by simp [mcs])
                have hEh4 : Ext (fun z => z = M) h3 h4 := by rw [← hh]; exact Ext.put _ _ rfl
                clear hh
                try clear u0 u1 u2 mok
                obtain ⟨u0, u1, u2, mok⟩ := mq (b4)
                have hR4 := (hR3).ext hEh4 (fun w => by omega)
                try clear hRok
                have hRok : ∀ j, j < 4 → okPut h4 ⟨h.size, j, none⟩ = true := fun j hj => hR4.ok (by simpa using hj)
                refine S_nil (hK21 _ _ (V_keep [6, 8, 9, 10] (by simp only [proj, lk, reduceIte, Nat.reduceEqDiff]; rfl) ?_)); clear hK21
                refine V_sr T.mix (by kernel_rfl) (fun K22 hK22 => ?_)
                refine S_mv rfl ?_
                refine S_mv rfl ?_
                refine S_mv rfl ?_
                refine S_bld rfl (T.bld72_0_1_2_3 _ _ _ _) ?_
                refine S_stl T.sz72 rfl rfl rfl rfl (fun j hj => by simp (disch := omega) only [hRok]) ?_
                generalize hh : putsH _ _ _ _ = h9
                have hR9 : B h9 (h.size) #[.string (mkS ((ruF (raw ++ ch)).out.drop n)), .int .i64 2, .int .i64 (((ruF (raw ++ ch)).e : Nat) : Int), .int .i64 (((ruF (raw ++ ch)).pl : Nat) : Int)] 72 := by rw [← hh]; exact puts_all (hR4) (cs' := #[.string (mkS ((ruF (raw ++ ch)).out.drop n)), .int .i64 2, .int .i64 (((ruF (raw ++ ch)).e : Nat) : Int), .int .i64 (((ruF (raw ++ ch)).pl : Nat) : Int)]) rfl
                have hEh9 : Ext (fun k => k = h.size) h4 h9 := by rw [← hh]; exact Ext.puts (S := fun k => k = h.size) rfl _ _ _
                clear hh
                refine S_nil (hK22 _ _ (V_keep [6] (by simp only [proj, lk, reduceIte, Nat.reduceEqDiff]; rfl) ?_)); clear hK22
                refine V_ret ?_
                refine hR _ _ (retc1 rfl rfl T.ag72 hR9 (by rfl) ?_)
                first
                  | (exfalso; revert g39; first | (revert c35; cases lst <;> simp; done) | (revert c35a; cases lst <;> simp; done))
                  | (have hq0 : (ruF (raw ++ ch)).e = 0 := (by omega); have hq1 : lst = true := (by assumption); rw [n1, n2, n3, n4, stS1 hq0 hq1]; exact ⟨rfl, b4.ext hEh9 (fun w => by omega), (hX3.trans hEh4).step hEh9 (fun z hz e => by omega)⟩)
                  | (have hq0 : (ruF (raw ++ ch)).e = 0 ∨ (ruF (raw ++ ch)).e = 4 := (by omega); have hq1 : lst = false := (by cases lst; (rfl); (simp at *)); rw [n1, n2, n3, n4, stS0 hq0 hq1]; exact ⟨rfl, b3.ext hEh9 (fun w => by omega), hX3.step hEh9 (fun z hz e => by omega)⟩)
                  | (have hq0 : (ruF (raw ++ ch)).e ≠ 0 := (by omega); have hq1 : lst = true ∨ (ruF (raw ++ ch)).e ≠ 4 := (by first | exact .inr (by omega) | (left; cases lst; (simp at *); (rfl))); rw [n1, n2, n3, n4, stS2 hq0 hq1]; exact ⟨rfl, b4.ext hEh9 (fun w => by omega), (hX3.trans hEh4).step hEh9 (fun z hz e => by omega)⟩)
          · skip
            refine S_gf rfl ?_
            refine S_gf rfl ?_
            refine S_gf rfl ?_
            refine S_gf rfl ?_
            refine S_gf rfl ?_
            refine S_gf rfl ?_
            refine S_pf rfl rfl ?_
            refine S_nil (hK18 _ _ (V_keep [0, 6, 8, 9, 10, 78] (by simp only [proj, lk, reduceIte, Nat.reduceEqDiff]; rfl) ?_)); clear hK18
            refine V_condf rfl ?_
            refine V_skipk [0, 6, 8, 9, 10] (by simp only [proj, lk, reduceIte, Nat.reduceEqDiff]; rfl) ?_
            refine hK17 _ _ ?_; clear hK17
            refine V_sr T.mix (by kernel_rfl) (fun K23 hK23 => ?_)
            refine S_mv rfl ?_
            refine S_nc rfl ?_
            first | refine S_fa0 T.f52_2 rfl ?_ | refine S_fa T.f52_2 rfl ?_
            refine S_st T.sz3 rfl rfl rfl rfl (by simp (disch := omega) only [mok]) ?_
            generalize hh : putH _ _ _ = h4
            have b4 : B h4 M (mcs (raw ++ ch) (ruF (raw ++ ch)).out.length 2) 52 := by rw [← hh]; exact (b3.put 2 _).cong (by simp [mcs])
            have hEh4 : Ext (fun z => z = M) h3 h4 := by rw [← hh]; exact Ext.put _ _ rfl
            clear hh
            try clear u0 u1 u2 mok
            obtain ⟨u0, u1, u2, mok⟩ := mq (b4)
            have hR4 := (hR3).ext hEh4 (fun w => by omega)
            try clear hRok
            have hRok : ∀ j, j < 4 → okPut h4 ⟨h.size, j, none⟩ = true := fun j hj => hR4.ok (by simpa using hj)
            refine S_nil (hK23 _ _ (V_keep [6, 8, 9, 10] (by simp only [proj, lk, reduceIte, Nat.reduceEqDiff]; rfl) ?_)); clear hK23
            refine V_sr T.mix (by kernel_rfl) (fun K24 hK24 => ?_)
            refine S_mv rfl ?_
            refine S_mv rfl ?_
            refine S_mv rfl ?_
            refine S_bld rfl (T.bld72_0_1_2_3 _ _ _ _) ?_
            refine S_stl T.sz72 rfl rfl rfl rfl (fun j hj => by simp (disch := omega) only [hRok]) ?_
            generalize hh : putsH _ _ _ _ = h9
            have hR9 : B h9 (h.size) #[.string (mkS ((ruF (raw ++ ch)).out.drop n)), .int .i64 2, .int .i64 (((ruF (raw ++ ch)).e : Nat) : Int), .int .i64 (((ruF (raw ++ ch)).pl : Nat) : Int)] 72 := by rw [← hh]; exact puts_all (hR4) (cs' := #[.string (mkS ((ruF (raw ++ ch)).out.drop n)), .int .i64 2, .int .i64 (((ruF (raw ++ ch)).e : Nat) : Int), .int .i64 (((ruF (raw ++ ch)).pl : Nat) : Int)]) rfl
            have hEh9 : Ext (fun k => k = h.size) h4 h9 := by rw [← hh]; exact Ext.puts (S := fun k => k = h.size) rfl _ _ _
            clear hh
            refine S_nil (hK24 _ _ (V_keep [6] (by simp only [proj, lk, reduceIte, Nat.reduceEqDiff]; rfl) ?_)); clear hK24
            refine V_ret ?_
            refine hR _ _ (retc1 rfl rfl T.ag72 hR9 (by rfl) ?_)
            first
              | (exfalso; revert g39; first | (revert c35; cases lst <;> simp; done) | (revert c35a; cases lst <;> simp; done))
              | (have hq0 : (ruF (raw ++ ch)).e = 0 := (by omega); have hq1 : lst = true := (by assumption); rw [n1, n2, n3, n4, stS1 hq0 hq1]; exact ⟨rfl, b4.ext hEh9 (fun w => by omega), (hX3.trans hEh4).step hEh9 (fun z hz e => by omega)⟩)
              | (have hq0 : (ruF (raw ++ ch)).e = 0 ∨ (ruF (raw ++ ch)).e = 4 := (by omega); have hq1 : lst = false := (by cases lst; (rfl); (simp at *)); rw [n1, n2, n3, n4, stS0 hq0 hq1]; exact ⟨rfl, b3.ext hEh9 (fun w => by omega), hX3.step hEh9 (fun z hz e => by omega)⟩)
              | (have hq0 : (ruF (raw ++ ch)).e ≠ 0 := (by omega); have hq1 : lst = true ∨ (ruF (raw ++ ch)).e ≠ 4 := (by first | exact .inr (by omega) | (left; cases lst; (simp at *); (rfl))); rw [n1, n2, n3, n4, stS2 hq0 hq1]; exact ⟨rfl, b4.ext hEh9 (fun w => by omega), (hX3.trans hEh4).step hEh9 (fun z hz e => by omega)⟩)
      · skip
        refine S_gf rfl ?_
        refine S_pf rfl rfl ?_
        refine S_nil (hK14 _ _ (V_keep [0, 2, 6, 8, 9, 10, 63] (by simp only [proj, lk, reduceIte, Nat.reduceEqDiff]; rfl) ?_)); clear hK14
        refine V_condf rfl ?_
        refine V_skipk [0, 2, 6, 8, 9, 10] (by simp only [proj, lk, reduceIte, Nat.reduceEqDiff]; rfl) ?_
        refine hK13 _ _ ?_; clear hK13
        refine V_seq (fun K25 hK25 => ?_)
        refine V_sr T.mix (by kernel_rfl) (fun K26 hK26 => ?_)
        refine S_mv rfl ?_
        refine S_notb rfl ?_
        refine S_mv rfl ?_
        refine S_decb (fun g39b => ?_) (fun g39b => ?_)
        · skip
          refine S_gt rfl ?_
          refine S_mv rfl ?_
          refine S_gt rfl ?_
          refine S_bin rfl rfl rfl ?_
          refine S_gt rfl ?_
          refine S_mv rfl ?_
          refine S_dec (fun g39c => ?_) (fun g39c => ?_)
          · skip
            refine S_gf rfl ?_
            refine S_gf rfl ?_
            refine S_gt rfl ?_
            refine S_pt rfl rfl ?_
            refine S_pt rfl rfl ?_
            refine S_nil (hK26 _ _ (V_keep [0, 6, 8, 9, 10, 78] (by simp only [proj, lk, reduceIte, Nat.reduceEqDiff]; rfl) ?_)); clear hK26
            refine V_condt rfl ?_
            refine V_sr T.mix (by kernel_rfl) (fun K27 hK27 => ?_)
            refine S_mv rfl ?_
            refine S_bld rfl (T.bld72_0_1 _ _) ?_
            refine S_stl T.sz72 rfl rfl rfl rfl (fun j hj => by simp (disch := omega) only [hRok]) ?_
            generalize hh : putsH _ _ _ _ = h9
            have hR9 : B h9 (h.size) #[.string (mkS ((ruF (raw ++ ch)).out.drop n)), .int .i64 0, .int .i64 0, .int .i64 0] 72 := by rw [← hh]; exact puts_all (hR3) (cs' := #[.string (mkS ((ruF (raw ++ ch)).out.drop n)), .int .i64 0, .int .i64 0, .int .i64 0]) rfl
            have hEh9 : Ext (fun k => k = h.size) h3 h9 := by rw [← hh]; exact Ext.puts (S := fun k => k = h.size) rfl _ _ _
            clear hh
            refine S_nil (hK27 _ _ (V_keep [6] (by simp only [proj, lk, reduceIte, Nat.reduceEqDiff]; rfl) ?_)); clear hK27
            refine V_ret ?_
            refine hR _ _ (retc1 rfl rfl T.ag72 hR9 (by rfl) ?_)
            first
              | (exfalso; revert g39; first | (revert c35; cases lst <;> simp; done) | (revert c35a; cases lst <;> simp; done))
              | (have hq0 : (ruF (raw ++ ch)).e = 0 := (by omega); have hq1 : lst = true := (by assumption); rw [n1, n2, n3, n4, stS1 hq0 hq1]; exact ⟨rfl, b4.ext hEh9 (fun w => by omega), (hX3.trans hEh4).step hEh9 (fun z hz e => by omega)⟩)
              | (have hq0 : (ruF (raw ++ ch)).e = 0 ∨ (ruF (raw ++ ch)).e = 4 := (by omega); have hq1 : lst = false := (by cases lst; (rfl); (simp at *)); rw [n1, n2, n3, n4, stS0 hq0 hq1]; exact ⟨rfl, b3.ext hEh9 (fun w => by omega), hX3.step hEh9 (fun z hz e => by omega)⟩)
              | (have hq0 : (ruF (raw ++ ch)).e ≠ 0 := (by omega); have hq1 : lst = true ∨ (ruF (raw ++ ch)).e ≠ 4 := (by first | exact .inr (by omega) | (left; cases lst; (simp at *); (rfl))); rw [n1, n2, n3, n4, stS2 hq0 hq1]; exact ⟨rfl, b4.ext hEh9 (fun w => by omega), (hX3.trans hEh4).step hEh9 (fun z hz e => by omega)⟩)
          · skip
            refine S_gt rfl ?_
            refine S_mv rfl ?_
            refine S_gt rfl ?_
            refine S_bin rfl rfl rfl ?_
            refine S_gt rfl ?_
            refine S_pf rfl rfl ?_
            refine S_pt rfl rfl ?_
            refine S_nil (hK26 _ _ (V_keep [0, 6, 8, 9, 10, 78] (by simp only [proj, lk, reduceIte, Nat.reduceEqDiff]; rfl) ?_)); clear hK26
            refine V_condp rfl (fun c39a => ?_) (fun c39a => ?_)
            · skip
              refine V_sr T.mix (by kernel_rfl) (fun K28 hK28 => ?_)
              refine S_mv rfl ?_
              refine S_bld rfl (T.bld72_0_1 _ _) ?_
              refine S_stl T.sz72 rfl rfl rfl rfl (fun j hj => by simp (disch := omega) only [hRok]) ?_
              generalize hh : putsH _ _ _ _ = h9
              have hR9 : B h9 (h.size) #[.string (mkS ((ruF (raw ++ ch)).out.drop n)), .int .i64 0, .int .i64 0, .int .i64 0] 72 := by rw [← hh]; exact puts_all (hR3) (cs' := #[.string (mkS ((ruF (raw ++ ch)).out.drop n)), .int .i64 0, .int .i64 0, .int .i64 0]) rfl
              have hEh9 : Ext (fun k => k = h.size) h3 h9 := by rw [← hh]; exact Ext.puts (S := fun k => k = h.size) rfl _ _ _
              clear hh
              refine S_nil (hK28 _ _ (V_keep [6] (by simp only [proj, lk, reduceIte, Nat.reduceEqDiff]; rfl) ?_)); clear hK28
              refine V_ret ?_
              refine hR _ _ (retc1 rfl rfl T.ag72 hR9 (by rfl) ?_)
              first
                | (exfalso; revert g39; first | (revert c35; cases lst <;> simp; done) | (revert c35a; cases lst <;> simp; done))
                | (have hq0 : (ruF (raw ++ ch)).e = 0 := (by omega); have hq1 : lst = true := (by assumption); rw [n1, n2, n3, n4, stS1 hq0 hq1]; exact ⟨rfl, b4.ext hEh9 (fun w => by omega), (hX3.trans hEh4).step hEh9 (fun z hz e => by omega)⟩)
                | (have hq0 : (ruF (raw ++ ch)).e = 0 ∨ (ruF (raw ++ ch)).e = 4 := (by omega); have hq1 : lst = false := (by cases lst; (rfl); (simp at *)); rw [n1, n2, n3, n4, stS0 hq0 hq1]; exact ⟨rfl, b3.ext hEh9 (fun w => by omega), hX3.step hEh9 (fun z hz e => by omega)⟩)
                | (have hq0 : (ruF (raw ++ ch)).e ≠ 0 := (by omega); have hq1 : lst = true ∨ (ruF (raw ++ ch)).e ≠ 4 := (by first | exact .inr (by omega) | (left; cases lst; (simp at *); (rfl))); rw [n1, n2, n3, n4, stS2 hq0 hq1]; exact ⟨rfl, b4.ext hEh9 (fun w => by omega), (hX3.trans hEh4).step hEh9 (fun z hz e => by omega)⟩)
            · skip
              refine V_skipk [0, 6, 8, 9, 10] (by simp only [proj, lk, reduceIte, Nat.reduceEqDiff]; rfl) ?_
              refine hK25 _ _ ?_; clear hK25
              refine V_sr T.mix (by kernel_rfl) (fun K29 hK29 => ?_)
              refine S_mv rfl ?_
              refine S_nc rfl ?_
              first | refine S_fa0 T.f52_2 rfl ?_ | refine S_fa T.f52_2 rfl ?_
              refine S_st T.sz3 rfl rfl rfl rfl (by simp (disch := omega) only [mok]) ?_
              generalize hh : putH _ _ _ = h4
              have b4 : B h4 M (mcs (raw ++ ch) (ruF (raw ++ ch)).out.length 2) 52 := by rw [← hh]; exact (b3.put 2 _).cong (by simp [mcs])
              have hEh4 : Ext (fun z => z = M) h3 h4 := by rw [← hh]; exact Ext.put _ _ rfl
              clear hh
              try clear u0 u1 u2 mok
              obtain ⟨u0, u1, u2, mok⟩ := mq (b4)
              have hR4 := (hR3).ext hEh4 (fun w => by omega)
              try clear hRok
              have hRok : ∀ j, j < 4 → okPut h4 ⟨h.size, j, none⟩ = true := fun j hj => hR4.ok (by simpa using hj)
              refine S_nil (hK29 _ _ (V_keep [6, 8, 9, 10] (by simp only [proj, lk, reduceIte, Nat.reduceEqDiff]; rfl) ?_)); clear hK29
              refine V_sr T.mix (by kernel_rfl) (fun K30 hK30 => ?_)
              refine S_mv rfl ?_
              refine S_mv rfl ?_
              refine S_mv rfl ?_
              refine S_bld rfl (T.bld72_0_1_2_3 _ _ _ _) ?_
              refine S_stl T.sz72 rfl rfl rfl rfl (fun j hj => by simp (disch := omega) only [hRok]) ?_
              generalize hh : putsH _ _ _ _ = h9
              have hR9 : B h9 (h.size) #[.string (mkS ((ruF (raw ++ ch)).out.drop n)), .int .i64 2, .int .i64 (((ruF (raw ++ ch)).e : Nat) : Int), .int .i64 (((ruF (raw ++ ch)).pl : Nat) : Int)] 72 := by rw [← hh]; exact puts_all (hR4) (cs' := #[.string (mkS ((ruF (raw ++ ch)).out.drop n)), .int .i64 2, .int .i64 (((ruF (raw ++ ch)).e : Nat) : Int), .int .i64 (((ruF (raw ++ ch)).pl : Nat) : Int)]) rfl
              have hEh9 : Ext (fun k => k = h.size) h4 h9 := by rw [← hh]; exact Ext.puts (S := fun k => k = h.size) rfl _ _ _
              clear hh
              refine S_nil (hK30 _ _ (V_keep [6] (by simp only [proj, lk, reduceIte, Nat.reduceEqDiff]; rfl) ?_)); clear hK30
              refine V_ret ?_
              refine hR _ _ (retc1 rfl rfl T.ag72 hR9 (by rfl) ?_)
              first
                | (exfalso; revert g39; first | (revert c35; cases lst <;> simp; done) | (revert c35a; cases lst <;> simp; done))
                | (have hq0 : (ruF (raw ++ ch)).e = 0 := (by omega); have hq1 : lst = true := (by assumption); rw [n1, n2, n3, n4, stS1 hq0 hq1]; exact ⟨rfl, b4.ext hEh9 (fun w => by omega), (hX3.trans hEh4).step hEh9 (fun z hz e => by omega)⟩)
                | (have hq0 : (ruF (raw ++ ch)).e = 0 ∨ (ruF (raw ++ ch)).e = 4 := (by omega); have hq1 : lst = false := (by cases lst; (rfl); (simp at *)); rw [n1, n2, n3, n4, stS0 hq0 hq1]; exact ⟨rfl, b3.ext hEh9 (fun w => by omega), hX3.step hEh9 (fun z hz e => by omega)⟩)
                | (have hq0 : (ruF (raw ++ ch)).e ≠ 0 := (by omega); have hq1 : lst = true ∨ (ruF (raw ++ ch)).e ≠ 4 := (by first | exact .inr (by omega) | (left; cases lst; (simp at *); (rfl))); rw [n1, n2, n3, n4, stS2 hq0 hq1]; exact ⟨rfl, b4.ext hEh9 (fun w => by omega), (hX3.trans hEh4).step hEh9 (fun z hz e => by omega)⟩)
        · skip
          refine S_gf rfl ?_
          refine S_gf rfl ?_
          refine S_gf rfl ?_
          refine S_gf rfl ?_
          refine S_gf rfl ?_
          refine S_gf rfl ?_
          refine S_pf rfl rfl ?_
          refine S_nil (hK26 _ _ (V_keep [0, 6, 8, 9, 10, 78] (by simp only [proj, lk, reduceIte, Nat.reduceEqDiff]; rfl) ?_)); clear hK26
          refine V_condf rfl ?_
          refine V_skipk [0, 6, 8, 9, 10] (by simp only [proj, lk, reduceIte, Nat.reduceEqDiff]; rfl) ?_
          refine hK25 _ _ ?_; clear hK25
          refine V_sr T.mix (by kernel_rfl) (fun K31 hK31 => ?_)
          refine S_mv rfl ?_
          refine S_nc rfl ?_
          first | refine S_fa0 T.f52_2 rfl ?_ | refine S_fa T.f52_2 rfl ?_
          refine S_st T.sz3 rfl rfl rfl rfl (by simp (disch := omega) only [mok]) ?_
          generalize hh : putH _ _ _ = h4
          have b4 : B h4 M (mcs (raw ++ ch) (ruF (raw ++ ch)).out.length 2) 52 := by rw [← hh]; exact (b3.put 2 _).cong (by simp [mcs])
          have hEh4 : Ext (fun z => z = M) h3 h4 := by rw [← hh]; exact Ext.put _ _ rfl
          clear hh
          try clear u0 u1 u2 mok
          obtain ⟨u0, u1, u2, mok⟩ := mq (b4)
          have hR4 := (hR3).ext hEh4 (fun w => by omega)
          try clear hRok
          have hRok : ∀ j, j < 4 → okPut h4 ⟨h.size, j, none⟩ = true := fun j hj => hR4.ok (by simpa using hj)
          refine S_nil (hK31 _ _ (V_keep [6, 8, 9, 10] (by simp only [proj, lk, reduceIte, Nat.reduceEqDiff]; rfl) ?_)); clear hK31
          refine V_sr T.mix (by kernel_rfl) (fun K32 hK32 => ?_)
          refine S_mv rfl ?_
          refine S_mv rfl ?_
          refine S_mv rfl ?_
          refine S_bld rfl (T.bld72_0_1_2_3 _ _ _ _) ?_
          refine S_stl T.sz72 rfl rfl rfl rfl (fun j hj => by simp (disch := omega) only [hRok]) ?_
          generalize hh : putsH _ _ _ _ = h9
          have hR9 : B h9 (h.size) #[.string (mkS ((ruF (raw ++ ch)).out.drop n)), .int .i64 2, .int .i64 (((ruF (raw ++ ch)).e : Nat) : Int), .int .i64 (((ruF (raw ++ ch)).pl : Nat) : Int)] 72 := by rw [← hh]; exact puts_all (hR4) (cs' := #[.string (mkS ((ruF (raw ++ ch)).out.drop n)), .int .i64 2, .int .i64 (((ruF (raw ++ ch)).e : Nat) : Int), .int .i64 (((ruF (raw ++ ch)).pl : Nat) : Int)]) rfl
          have hEh9 : Ext (fun k => k = h.size) h4 h9 := by rw [← hh]; exact Ext.puts (S := fun k => k = h.size) rfl _ _ _
          clear hh
          refine S_nil (hK32 _ _ (V_keep [6] (by simp only [proj, lk, reduceIte, Nat.reduceEqDiff]; rfl) ?_)); clear hK32
          refine V_ret ?_
          refine hR _ _ (retc1 rfl rfl T.ag72 hR9 (by rfl) ?_)
          first
            | (exfalso; revert g39; first | (revert c35; cases lst <;> simp; done) | (revert c35a; cases lst <;> simp; done))
            | (have hq0 : (ruF (raw ++ ch)).e = 0 := (by omega); have hq1 : lst = true := (by assumption); rw [n1, n2, n3, n4, stS1 hq0 hq1]; exact ⟨rfl, b4.ext hEh9 (fun w => by omega), (hX3.trans hEh4).step hEh9 (fun z hz e => by omega)⟩)
            | (have hq0 : (ruF (raw ++ ch)).e = 0 ∨ (ruF (raw ++ ch)).e = 4 := (by omega); have hq1 : lst = false := (by cases lst; (rfl); (simp at *)); rw [n1, n2, n3, n4, stS0 hq0 hq1]; exact ⟨rfl, b3.ext hEh9 (fun w => by omega), hX3.step hEh9 (fun z hz e => by omega)⟩)
            | (have hq0 : (ruF (raw ++ ch)).e ≠ 0 := (by omega); have hq1 : lst = true ∨ (ruF (raw ++ ch)).e ≠ 4 := (by first | exact .inr (by omega) | (left; cases lst; (simp at *); (rfl))); rw [n1, n2, n3, n4, stS2 hq0 hq1]; exact ⟨rfl, b4.ext hEh9 (fun w => by omega), (hX3.trans hEh4).step hEh9 (fun z hz e => by omega)⟩)
end Go.Proofs.Qxb6500409aGreat
