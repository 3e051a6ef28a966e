import Derived.Test.Qxb6500404aGreatTa
import Derived.Test.Qxb6500404aGreatEo
set_option linter.unusedVariables false
set_option linter.unusedSimpArgs false
namespace Go.Proofs.Qxb6500404aGreat
open Go.Eng Go.Bits Go.Blk HufW Go.Arc

theorem ret4 {P : Program} {fn : Func} {Rel : Value → Heap → Prop} {l : Fr} {h : Heap} {t u s r : Nat} {v w x y : Value} (hr : fn.results = #[.tmp t, .tmp u, .tmp s, .tmp r]) (hv : E l t = some v) (hw : E l u = some w) (hx : E l s = some x) (hy : E l r = some y) (hR : Rel (.tuple #[v, w, x, y]) h) : retK P fn Rel l h :=
  ⟨[v, w, x, y], by rw [hr]; simp only [resV, hv, hw, hx, hy], hR⟩

theorem retc3 {P : Program} {fn : Func} {Rel : Value → Heap → Prop} {l : Fr} {h : Heap} {c u u2 b n : Nat} {ty t : TypeId} {cs : Array Value} {w w' : Value} (hr : fn.results = #[.cell c ty, .tmp u, .tmp u2]) (hv : E l c = some (.pointer (some ⟨b, 0, none⟩))) (ha : agS P ty = some (some n)) (hw : E l u = some w) (hw' : E l u2 = some w') (hb : B h b cs t) (hn : n = cs.size) (hR : Rel (.tuple #[.agg cs, w, w']) h) : retK P fn Rel l h :=
  ⟨[.agg cs, w, w'], by rw [hr]; simp only [resV, hv, hw, hw', loadV, ha, hb.all hn, Option.map_some]; try rfl, hR⟩
def s5 (a b c d f : Nat) : Array Value := #[.int .i64 (a : Int), .int .i64 (b : Int), .int .i64 (c : Int), .int .i64 (d : Int), .int .i64 (f : Int)]
theorem s5q {h : Heap} {X a b c d f : Nat} {t : TypeId} (hb : B h X (s5 a b c d f) t) : cellH h ⟨X, 0, none⟩ = some (.int .i64 (a : Int)) ∧ cellH h ⟨X, 1, none⟩ = some (.int .i64 (b : Int)) ∧ cellH h ⟨X, 2, none⟩ = some (.int .i64 (c : Int)) ∧ cellH h ⟨X, 3, none⟩ = some (.int .i64 (d : Int)) ∧ cellH h ⟨X, 4, none⟩ = some (.int .i64 (f : Int)) ∧ ∀ j, j < 5 → okPut h ⟨X, j, none⟩ = true := ⟨hb.cell 0, hb.cell 1, hb.cell 2, hb.cell 3, hb.cell 4, fun j hj => hb.ok (by simpa [s5] using hj)⟩
set_option maxHeartbeats 400000 in
theorem word_spec (h : Heap) (raw : ByteArray) (i : Nat) (hi : i + 2 ≤ raw.size) (hz : raw.size ≤ 1200) :
    FC Tryz.prog 114 (#[.string raw, .int .i64 (i : Int)] : Array Value) h fun rv h' => rv = .int .i64 ((w2 raw i : Nat) : Int) ∧ h = h' := by
  have hb0 := bAt_lt raw i
  have hb1 := bAt_lt raw (i + 1)
  refine FC_of [(0, .string raw), (1, .int .i64 (i : Int))] Tryz.func114 rfl Tryz.ntmps114 (by simp) rfl (fun R hR => ?_)
  refine V_sr T.mix (by kernel_rfl) (fun K1 hK1 => ?_)
  refine S_as rfl ?_
  refine S_nil (hK1 _ _ (V_keep [0, 1] (by simp only [proj, lk, reduceIte, Nat.reduceEqDiff]; rfl) ?_)); clear hK1
  refine V_sr T.mix (by kernel_rfl) (fun K2 hK2 => ?_)
  refine S_mv rfl ?_
  refine S_mv rfl ?_
  refine S_si T.kd9 rfl rfl (by omega) (by omega) ?_
  rw [Int.toNat_natCast]
  obtain ⟨b0, e0⟩ : ∃ x, x = bAt raw i := ⟨_, rfl⟩
  rw [← e0] at hb0 ⊢
  first | refine S_cvi T.us5 T.in3 rfl (by omega) (by omega) ?_ | refine S_cv T.us5 T.in3 rfl ?_
  refine S_mv rfl ?_
  refine S_mv rfl ?_
  refine S_addN (i + 1) rfl rfl (by omega) (by omega) ?_
  refine S_si T.kd9 rfl rfl (by omega) (by omega) ?_
  rw [Int.toNat_natCast]
  obtain ⟨b1, e1⟩ : ∃ x, x = bAt raw (i + 1) := ⟨_, rfl⟩
  rw [← e1] at hb1 ⊢
  first | refine S_cvi T.us5 T.in3 rfl (by omega) (by omega) ?_ | refine S_cv T.us5 T.in3 rfl ?_
  refine S_nshl b1 8 (b1 * 256) rfl rfl rfl rfl (by rw [show (256 : Nat) = 2 ^ 8 from rfl]) (by decide) (BitW.top_i64 (by omega)) ?_
  refine S_addN (b0 + b1 * 256) rfl rfl (by omega) (by omega) ?_
  refine S_as rfl ?_
  refine S_nil (hK2 _ _ (V_keep [4] (by simp only [proj, lk, reduceIte, Nat.reduceEqDiff]; rfl) ?_)); clear hK2
  refine V_ret ?_
  refine hR _ _ (ret1 rfl rfl ?_)
  exact ⟨by unfold w2; rw [← e0, ← e1], rfl⟩
set_option maxHeartbeats 800000 in
theorem atail_spec (h : Heap) (raw : ByteArray) (hz : raw.size ≤ 1200) :
    FC Tryz.prog 78 (#[.string raw] : Array Value) h fun rv h' => rv = .tuple #[.int .i64 (((tlF raw).1 : Nat) : Int), .int .i64 (((tlF raw).2.1 : Nat) : Int), .int .i64 (((tlF raw).2.2.1 : Nat) : Int), .int .i64 (((tlF raw).2.2.2 : Nat) : Int)] ∧ h = h' := by
  refine FC_of [(0, .string raw)] Tryz.func78 rfl Tryz.ntmps78 (by simp) rfl (fun R hR => ?_)
  refine V_sr T.mix (by kernel_rfl) (fun K1 hK1 => ?_)
  refine S_as rfl ?_
  refine S_as rfl ?_
  refine S_as rfl ?_
  refine S_as rfl ?_
  refine S_nil (hK1 _ _ (V_keep [0] (by simp only [proj, lk, reduceIte, Nat.reduceEqDiff]; rfl) ?_)); clear hK1
  refine V_sr T.mix (by kernel_rfl) (fun K2 hK2 => ?_)
  refine S_mv rfl ?_
  refine S_lens T.kd9 rfl ?_
  refine S_sub rfl rfl (by omega) (by omega) ?_
  obtain ⟨en, hen⟩ : ∃ x : Int, x = (raw.size : Int) - 4 := ⟨_, rfl⟩
  rw [← hen]
  refine S_as rfl ?_
  refine S_nil (hK2 _ _ (V_keep [0, 6] (by simp only [proj, lk, reduceIte, Nat.reduceEqDiff]; rfl) ?_)); clear hK2
  refine V_seq (fun K3 hK3 => ?_)
  refine V_sr T.mix (by kernel_rfl) (fun K4 hK4 => ?_)
  refine S_mv rfl ?_
  refine S_bin rfl rfl rfl ?_
  refine S_nil (hK4 _ _ (V_keep [0, 6, 13] (by simp only [proj, lk, reduceIte, Nat.reduceEqDiff]; rfl) ?_)); clear hK4
  refine V_condp rfl (fun c15 => ?_) (fun c15 => ?_)
  · skip
    refine V_sr T.mix (by kernel_rfl) (fun K5 hK5 => ?_)
    refine S_as rfl ?_
    refine S_as rfl ?_
    refine S_as rfl ?_
    refine S_as rfl ?_
    refine S_nil (hK5 _ _ (V_keep [2, 3, 4, 5] (by simp only [proj, lk, reduceIte, Nat.reduceEqDiff]; rfl) ?_)); clear hK5
    refine V_ret ?_
    refine hR _ _ (ret4 rfl rfl rfl rfl rfl ?_)
    have ht : tlF raw = (0, 0, 14, 0) := by unfold tlF; rw [if_pos (by omega)]
    rw [ht]
    exact ⟨rfl, rfl⟩
  · skip
    obtain ⟨k, hk⟩ : ∃ k : Nat, en = (k : Int) := ⟨en.toNat, by omega⟩
    subst hk
    have k1 : raw.size - 1 = k + 3 := by omega
    have k4 : raw.size - 4 = k := by omega
    have k3 : raw.size - 3 = k + 1 := by omega
    have hn4 : ¬ raw.size < 4 := by omega
    refine V_skipk [0, 6] (by simp only [proj, lk, reduceIte, Nat.reduceEqDiff]; rfl) ?_
    refine hK3 _ _ ?_; clear hK3
    refine V_seq (fun K6 hK6 => ?_)
    refine V_sr T.mix (by kernel_rfl) (fun K7 hK7 => ?_)
    refine S_mv rfl ?_
    refine S_mv rfl ?_
    refine S_addN (k + 3) rfl rfl (by omega) (by omega) ?_
    refine S_si T.kd9 rfl rfl (by omega) (by omega) ?_
    rw [Int.toNat_natCast]
    obtain ⟨b9, e9⟩ : ∃ x, x = bAt raw (k + 3) := ⟨_, rfl⟩
    rw [← e9]
    refine S_bin rfl rfl rfl ?_
    refine S_nil (hK7 _ _ (V_keep [0, 6, 18] (by simp only [proj, lk, reduceIte, Nat.reduceEqDiff]; rfl) ?_)); clear hK7
    refine V_condp rfl (fun c18 => ?_) (fun c18 => ?_)
    · skip
      refine V_sr T.mix (by kernel_rfl) (fun K8 hK8 => ?_)
      refine S_as rfl ?_
      refine S_as rfl ?_
      refine S_as rfl ?_
      refine S_as rfl ?_
      refine S_nil (hK8 _ _ (V_keep [2, 3, 4, 5] (by simp only [proj, lk, reduceIte, Nat.reduceEqDiff]; rfl) ?_)); clear hK8
      refine V_ret ?_
      refine hR _ _ (ret4 rfl rfl rfl rfl rfl ?_)
      have ht : tlF raw = (0, 0, 14, 0) := by unfold tlF; rw [if_neg hn4, k1, ← e9, if_pos (by omega)]
      rw [ht]
      exact ⟨rfl, rfl⟩
    · skip
      refine V_skipk [0, 6] (by simp only [proj, lk, reduceIte, Nat.reduceEqDiff]; rfl) ?_
      refine hK6 _ _ ?_; clear hK6
      refine V_sr T.mix (by kernel_rfl) (fun K9 hK9 => ?_)
      refine S_mv rfl ?_
      refine S_mv rfl ?_
      refine S_si T.kd9 rfl rfl (by omega) (by omega) ?_
      rw [Int.toNat_natCast]
      have hb0 := bAt_lt raw k
      obtain ⟨cn, ec⟩ : ∃ x, x = bAt raw k := ⟨_, rfl⟩
      rw [← ec] at hb0 ⊢
      first | refine S_cvi T.us5 T.in3 rfl (by omega) (by omega) ?_ | refine S_cv T.us5 T.in3 rfl ?_
      refine S_as rfl ?_
      refine S_nil (hK9 _ _ (V_keep [0, 6, 7] (by simp only [proj, lk, reduceIte, Nat.reduceEqDiff]; rfl) ?_)); clear hK9
      refine V_seq (fun K10 hK10 => ?_)
      refine V_sr T.mix (by kernel_rfl) (fun K11 hK11 => ?_)
      refine S_mv rfl ?_
      refine S_bin rfl rfl rfl ?_
      refine S_nil (hK11 _ _ (V_keep [0, 6, 7, 24] (by simp only [proj, lk, reduceIte, Nat.reduceEqDiff]; rfl) ?_)); clear hK11
      refine V_condp rfl (fun c22 => ?_) (fun c22 => ?_)
      · skip
        refine V_sr T.mix (by kernel_rfl) (fun K12 hK12 => ?_)
        refine S_mv rfl ?_
        refine S_as rfl ?_
        refine S_as rfl ?_
        refine S_as rfl ?_
        refine S_as rfl ?_
        refine S_nil (hK12 _ _ (V_keep [2, 3, 4, 5] (by simp only [proj, lk, reduceIte, Nat.reduceEqDiff]; rfl) ?_)); clear hK12
        refine V_ret ?_
        refine hR _ _ (ret4 rfl rfl rfl rfl rfl ?_)
        have ht : tlF raw = (0, 0, 17, k) := by unfold tlF; rw [if_neg hn4, k1, ← e9, if_neg (by omega), k4, ← ec, if_pos (by omega)]
        rw [ht]
        exact ⟨rfl, rfl⟩
      · skip
        refine V_skipk [0, 6, 7] (by simp only [proj, lk, reduceIte, Nat.reduceEqDiff]; rfl) ?_
        refine hK10 _ _ ?_; clear hK10
        refine V_sr T.mix (by kernel_rfl) (fun K13 hK13 => ?_)
        refine S_mv rfl ?_
        refine S_mv rfl ?_
        refine S_addN (k + 1) rfl rfl (by omega) (by omega) ?_
        refine S_call T.hb114 rfl ?_
        have hw := w2_lt raw (k + 1)
        refine FC.mono (word_spec h raw (k + 1) (by omega) hz) ?_
        obtain ⟨dr, ed⟩ : ∃ x, x = w2 raw (k + 1) := ⟨_, rfl⟩
        rw [← ed] at hw ⊢
        rintro v' h' ⟨rfl, rfl⟩
        refine S_as rfl ?_
        refine S_nil (hK13 _ _ (V_keep [6, 7, 8] (by simp only [proj, lk, reduceIte, Nat.reduceEqDiff]; rfl) ?_)); clear hK13
        refine V_seq (fun K14 hK14 => ?_)
        refine V_sr T.mix (by kernel_rfl) (fun K15 hK15 => ?_)
        refine S_mv rfl ?_
        refine S_mv rfl ?_
        refine S_mul rfl rfl (by omega) (by omega) ?_
        refine S_addN (dr + 2 * cn) rfl rfl (by omega) (by omega) ?_
        refine S_mv rfl ?_
        refine S_bin rfl rfl rfl ?_
        refine S_nil (hK15 _ _ (V_keep [6, 7, 8, 35] (by simp only [proj, lk, reduceIte, Nat.reduceEqDiff]; rfl) ?_)); clear hK15
        refine V_condp rfl (fun c26 => ?_) (fun c26 => ?_)
        · skip
          refine V_sr T.mix (by kernel_rfl) (fun K16 hK16 => ?_)
          refine S_mv rfl ?_
          refine S_addN (k + 1) rfl rfl (by omega) (by omega) ?_
          refine S_as rfl ?_
          refine S_as rfl ?_
          refine S_as rfl ?_
          refine S_as rfl ?_
          refine S_nil (hK16 _ _ (V_keep [2, 3, 4, 5] (by simp only [proj, lk, reduceIte, Nat.reduceEqDiff]; rfl) ?_)); clear hK16
          refine V_ret ?_
          refine hR _ _ (ret4 rfl rfl rfl rfl rfl ?_)
          have ht : tlF raw = (0, 0, 15, k + 1) := by unfold tlF; rw [if_neg hn4, k1, ← e9, if_neg (by omega), k4, ← ec, if_neg (by omega), k3, ← ed, if_pos (by omega)]
          rw [ht]
          exact ⟨rfl, rfl⟩
        · skip
          refine V_skipk [7, 8] (by simp only [proj, lk, reduceIte, Nat.reduceEqDiff]; rfl) ?_
          refine hK14 _ _ ?_; clear hK14
          refine V_sr T.mix (by kernel_rfl) (fun K17 hK17 => ?_)
          refine S_mv rfl ?_
          refine S_mv rfl ?_
          refine S_as rfl ?_
          refine S_as rfl ?_
          refine S_as rfl ?_
          refine S_as rfl ?_
          refine S_nil (hK17 _ _ (V_keep [2, 3, 4, 5] (by simp only [proj, lk, reduceIte, Nat.reduceEqDiff]; rfl) ?_)); clear hK17
          refine V_ret ?_
          refine hR _ _ (ret4 rfl rfl rfl rfl rfl ?_)
          have ht : tlF raw = (cn, dr, 0, 0) := by unfold tlF; rw [if_neg hn4, k1, ← e9, if_neg (by omega), k4, ← ec, if_neg (by omega), k3, ← ed, if_neg (by omega)]
          rw [ht]
          exact ⟨rfl, rfl⟩
set_option maxHeartbeats 3200000 in
theorem spot_spec (h : Heap) (raw : ByteArray) (dir cell : Nat) (hz : raw.size ≤ 1200) (hd : dir ≤ raw.size) (hc : cell + 2 ≤ raw.size) :
    FC Tryz.prog 79 (#[.string raw, .int .i64 (dir : Int), .int .i64 (cell : Int)] : Array Value) h fun rv h' => ∃ a b c d f : Nat, rv = .tuple #[.agg (s5 a b c d f), .int .i64 (((spE raw dir cell).1 : Nat) : Int), .int .i64 (((spE raw dir cell).2 : Nat) : Int)] ∧ ((spE raw dir cell).1 = 0 → a = (spR raw cell).off ∧ b = (spR raw cell).head ∧ c = (spR raw cell).to ∧ d = (spR raw cell).size ∧ f = (spR raw cell).sum) ∧ Ext (fun _ => False) h h' := by
  refine FC_of [(0, .string raw), (1, .int .i64 (dir : Int)), (2, .int .i64 (cell : Int))] Tryz.func79 rfl Tryz.ntmps79 (by simp) rfl (fun R hR => ?_)
  refine V_sr T.mix (by kernel_rfl) (fun K1 hK1 => ?_)
  refine S_allocA T.z128 ?_
  generalize hh : Array.push h _ = g1
  have r1 : B g1 h.size (s5 (0) (0) (0) (0) (0)) 128 := by rw [← hh]; exact B.new _ _ _
  have hEg1 : Ext (fun _ => False) h g1 := by rw [← hh]; exact Ext.push _ _ _
  have hs_g1 : g1.size = h.size + 1 := by rw [← hh]; simp
  clear hh
  have hl1 := r1.lt
  refine S_as rfl ?_
  refine S_as rfl ?_
  refine S_nil (hK1 _ _ (V_keep [0, 1, 2, 6] (by simp only [proj, lk, reduceIte, Nat.reduceEqDiff]; rfl) ?_)); clear hK1
  refine V_sr T.mix (by kernel_rfl) (fun K2 hK2 => ?_)
  refine S_bld rfl (T.bld128) ?_
  refine S_allocA T.z128 ?_
  have hg1 := hs_g1
  generalize hh : Array.push g1 _ = g2
  have b2 : B g2 g1.size (s5 (0) (0) (0) (0) (0)) 128 := by rw [← hh]; exact B.new _ _ _
  have hEg2 : Ext (fun _ => False) g1 g2 := by rw [← hh]; exact Ext.push _ _ _
  clear hh
  rw [hg1] at b2
  rw [hg1]
  have r2 := r1.ext hEg2 (fun f => f)
  try clear c0 c1 c2 c3 c4 sok
  obtain ⟨c0, c1, c2, c3, c4, sok⟩ := s5q (b2)
  refine S_stl T.sz128 rfl rfl rfl rfl (fun j hj => by simp (disch := omega) only [sok]) ?_
  generalize hh : putsH _ _ _ _ = g3
  have b3 : B g3 (h.size + 1) (s5 (0) (0) (0) (0) (0)) 128 := by rw [← hh]; exact puts_all b2 (cs' := (s5 (0) (0) (0) (0) (0))) rfl
  have hEg3 : Ext (fun k => k = (h.size + 1)) g2 g3 := by rw [← hh]; exact Ext.puts (S := fun k => k = (h.size + 1)) rfl _ _ _
  clear hh
  have r3 := r2.ext hEg3 (fun e => by omega)
  try clear c0 c1 c2 c3 c4 sok
  obtain ⟨c0, c1, c2, c3, c4, sok⟩ := s5q (b3)
  refine S_nil (hK2 _ _ (V_keep [0, 1, 2, 6, 9] (by simp only [proj, lk, reduceIte, Nat.reduceEqDiff]; rfl) ?_)); clear hK2
  refine V_sr T.mix (by kernel_rfl) (fun K3 hK3 => ?_)
  refine S_mv rfl ?_
  refine S_mv rfl ?_
  refine S_call T.hb114 rfl ?_
  have hw_o_ := w2_lt raw (cell)
  refine FC.mono (word_spec g3 raw (cell) (by omega) hz) ?_
  obtain ⟨o_, e_o_⟩ : ∃ x, x = w2 raw (cell) := ⟨_, rfl⟩
  rw [← e_o_] at hw_o_ ⊢
  rintro v' h' ⟨rfl, rfl⟩
  first | refine S_fa0 T.f128_0 rfl ?_ | refine S_fa T.f128_0 rfl ?_
  refine S_st T.sz3 rfl rfl rfl rfl (by simp (disch := omega) only [sok]) ?_
  generalize hh : putH _ _ _ = g4
  have b4 : B g4 (h.size + 1) (s5 (o_) (0) (0) (0) (0)) 128 := by rw [← hh]; exact (b3.put 0 _).cong (by simp [s5])
  have hEg4 : Ext (fun z => z = (h.size + 1)) g3 g4 := by rw [← hh]; exact Ext.put _ _ rfl
  clear hh
  have r4 := r3.ext hEg4 (fun e => by omega)
  try clear c0 c1 c2 c3 c4 sok
  obtain ⟨c0, c1, c2, c3, c4, sok⟩ := s5q (b4)
  try clear rok
  have rok : ∀ j, j < 5 → okPut g4 ⟨h.size, j, none⟩ = true := fun j hj => r4.ok (by simpa [s5] using hj)
  refine S_nil (hK3 _ _ (V_keep [0, 1, 2, 6, 9] (by simp only [proj, lk, reduceIte, Nat.reduceEqDiff]; rfl) ?_)); clear hK3
  refine V_seq (fun K4 hK4 => ?_)
  refine V_sr T.mix (by kernel_rfl) (fun K5 hK5 => ?_)
  first | refine S_fa0 T.f128_0 rfl ?_ | refine S_fa T.f128_0 rfl ?_
  refine S_ldK T.ag3 rfl (fun K' hK' => ?_)
  simp (disch := omega) only [c0, c1, c2, c3, c4, oP_some, Nat.add_zero]
  refine hK' _ ?_; clear hK' K'
  refine S_mv rfl ?_
  refine S_bin rfl rfl rfl ?_
  refine S_nil (hK5 _ _ (V_keep [0, 1, 2, 6, 9, 21] (by simp only [proj, lk, reduceIte, Nat.reduceEqDiff]; rfl) ?_)); clear hK5
  refine V_condp rfl (fun c37 => ?_) (fun c37 => ?_)
  · skip
    refine V_sr T.mix (by kernel_rfl) (fun K6 hK6 => ?_)
    refine S_ldnK T.ag128 rfl (fun K' hK' => ?_)
    simp (disch := omega) only [c0, c1, c2, c3, c4, oPs_cons, oPs_nil, oP_some, Nat.reduceAdd, Nat.add_zero]
    refine hK' _ ?_; clear hK' K'
    refine S_mv rfl ?_
    refine S_stl T.sz128 rfl rfl rfl rfl (fun j hj => by simp (disch := omega) only [rok]) ?_
    generalize hh : putsH _ _ _ _ = hz_
    have hR9 : B hz_ h.size (s5 (o_) (0) (0) (0) (0)) 128 := by rw [← hh]; exact puts_all r4 (cs' := (s5 (o_) (0) (0) (0) (0))) rfl
    have hE9 : Ext (fun k => k = h.size) g4 hz_ := by rw [← hh]; exact Ext.puts (S := fun k => k = h.size) rfl _ _ _
    clear hh
    refine S_as rfl ?_
    refine S_as rfl ?_
    refine S_nil (hK6 _ _ (V_keep [6, 7, 8] (by simp only [proj, lk, reduceIte, Nat.reduceEqDiff]; rfl) ?_)); clear hK6
    refine V_ret ?_
    refine hR _ _ (retc3 rfl rfl T.ag128 rfl rfl hR9 (by rfl) ?_)
    have hse : spE raw dir cell = (15, cell) := by unfold spE; rw [if_pos (by show dir ≤ w2 raw cell; omega)]
    rw [hse]
    exact ⟨_, _, _, _, _, rfl, fun z => by simp at z, (((((hEg1.trans hEg2).step hEg3 (fun z hz e => by omega))).step hEg4 (fun z hz e => by omega))).step hE9 (fun z hz e => by omega)⟩
  · skip
    refine V_skipk [0, 1, 2, 6, 9] (by simp only [proj, lk, reduceIte, Nat.reduceEqDiff]; rfl) ?_
    refine hK4 _ _ ?_; clear hK4
    refine V_sr T.mix (by kernel_rfl) (fun K7 hK7 => ?_)
    refine S_mv rfl ?_
    first | refine S_fa0 T.f128_0 rfl ?_ | refine S_fa T.f128_0 rfl ?_
    refine S_ldK T.ag3 rfl (fun K' hK' => ?_)
    simp (disch := omega) only [c0, c1, c2, c3, c4, oP_some, Nat.add_zero]
    refine hK' _ ?_; clear hK' K'
    have so : (spR raw cell).off = o_ := e_o_.symm
    refine S_si T.kd9 rfl rfl (by omega) (by omega) ?_
    rw [Int.toNat_natCast]
    have hb_ := bAt_lt raw o_
    obtain ⟨nl, en⟩ : ∃ x, x = bAt raw o_ := ⟨_, rfl⟩
    rw [← en] at hb_ ⊢
    first | refine S_cvi T.us5 T.in3 rfl (by omega) (by omega) ?_ | refine S_cv T.us5 T.in3 rfl ?_
    refine S_as rfl ?_
    refine S_nil (hK7 _ _ (V_keep [0, 1, 2, 6, 9, 10] (by simp only [proj, lk, reduceIte, Nat.reduceEqDiff]; rfl) ?_)); clear hK7
    refine V_sr T.mix (by kernel_rfl) (fun K8 hK8 => ?_)
    first | refine S_fa0 T.f128_0 rfl ?_ | refine S_fa T.f128_0 rfl ?_
    refine S_ldK T.ag3 rfl (fun K' hK' => ?_)
    simp (disch := omega) only [c0, c1, c2, c3, c4, oP_some, Nat.add_zero]
    refine hK' _ ?_; clear hK' K'
    refine S_addN (o_ + 1) rfl rfl (by omega) (by omega) ?_
    refine S_mv rfl ?_
    refine S_addN (o_ + 1 + nl) rfl rfl (by omega) (by omega) ?_
    first | refine S_fa0 T.f128_1 rfl ?_ | refine S_fa T.f128_1 rfl ?_
    refine S_st T.sz3 rfl rfl rfl rfl (by simp (disch := omega) only [sok]) ?_
    generalize hh : putH _ _ _ = g5
    have b5 : B g5 (h.size + 1) (s5 (o_) (o_ + 1 + nl) (0) (0) (0)) 128 := by rw [← hh]; exact (b4.put 1 _).cong (by simp [s5])
    have hEg5 : Ext (fun z => z = (h.size + 1)) g4 g5 := by rw [← hh]; exact Ext.put _ _ rfl
    clear hh
    have r5 := r4.ext hEg5 (fun e => by omega)
    try clear c0 c1 c2 c3 c4 sok
    obtain ⟨c0, c1, c2, c3, c4, sok⟩ := s5q (b5)
    try clear rok
    have rok : ∀ j, j < 5 → okPut g5 ⟨h.size, j, none⟩ = true := fun j hj => r5.ok (by simpa [s5] using hj)
    refine S_nil (hK8 _ _ (V_keep [0, 1, 2, 6, 9, 10] (by simp only [proj, lk, reduceIte, Nat.reduceEqDiff]; rfl) ?_)); clear hK8
    refine V_sr T.mix (by kernel_rfl) (fun K9 hK9 => ?_)
    first | refine S_fa0 T.f128_1 rfl ?_ | refine S_fa T.f128_1 rfl ?_
    refine S_ldK T.ag3 rfl (fun K' hK' => ?_)
    simp (disch := omega) only [c0, c1, c2, c3, c4, oP_some, Nat.add_zero]
    refine hK' _ ?_; clear hK' K'
    have sh : (spR raw cell).head = o_ + 1 + nl := by rw [en, ← so]; rfl
    refine S_addN (o_ + 1 + nl + 6) rfl rfl (by omega) (by omega) ?_
    refine S_as rfl ?_
    refine S_nil (hK9 _ _ (V_keep [0, 1, 2, 6, 9, 10, 11] (by simp only [proj, lk, reduceIte, Nat.reduceEqDiff]; rfl) ?_)); clear hK9
    refine V_seq (fun K10 hK10 => ?_)
    refine V_sr T.mix (by kernel_rfl) (fun K11 hK11 => ?_)
    refine S_mv rfl ?_
    refine S_mv rfl ?_
    refine S_bin rfl rfl rfl ?_
    refine S_nil (hK11 _ _ (V_keep [0, 1, 2, 6, 9, 10, 11, 40] (by simp only [proj, lk, reduceIte, Nat.reduceEqDiff]; rfl) ?_)); clear hK11
    refine V_condp rfl (fun c43 => ?_) (fun c43 => ?_)
    · skip
      refine V_sr T.mix (by kernel_rfl) (fun K12 hK12 => ?_)
      refine S_ldnK T.ag128 rfl (fun K' hK' => ?_)
      simp (disch := omega) only [c0, c1, c2, c3, c4, oPs_cons, oPs_nil, oP_some, Nat.reduceAdd, Nat.add_zero]
      refine hK' _ ?_; clear hK' K'
      refine S_mv rfl ?_
      refine S_stl T.sz128 rfl rfl rfl rfl (fun j hj => by simp (disch := omega) only [rok]) ?_
      generalize hh : putsH _ _ _ _ = hz_
      have hR9 : B hz_ h.size (s5 (o_) (o_ + 1 + nl) (0) (0) (0)) 128 := by rw [← hh]; exact puts_all r5 (cs' := (s5 (o_) (o_ + 1 + nl) (0) (0) (0))) rfl
      have hE9 : Ext (fun k => k = h.size) g5 hz_ := by rw [← hh]; exact Ext.puts (S := fun k => k = h.size) rfl _ _ _
      clear hh
      refine S_as rfl ?_
      refine S_as rfl ?_
      refine S_nil (hK12 _ _ (V_keep [6, 7, 8] (by simp only [proj, lk, reduceIte, Nat.reduceEqDiff]; rfl) ?_)); clear hK12
      refine V_ret ?_
      refine hR _ _ (retc3 rfl rfl T.ag128 rfl rfl hR9 (by rfl) ?_)
      have hse : spE raw dir cell = (15, cell) := by unfold spE; rw [if_neg (by rw [so]; omega), if_pos (by rw [sh]; omega)]
      rw [hse]
      exact ⟨_, _, _, _, _, rfl, fun z => by simp at z, (((((((hEg1.trans hEg2).step hEg3 (fun z hz e => by omega))).step hEg4 (fun z hz e => by omega))).step hEg5 (fun z hz e => by omega))).step hE9 (fun z hz e => by omega)⟩
    · skip
      refine V_skipk [0, 1, 2, 6, 9, 10, 11] (by simp only [proj, lk, reduceIte, Nat.reduceEqDiff]; rfl) ?_
      refine hK10 _ _ ?_; clear hK10
      refine V_sr T.mix (by kernel_rfl) (fun K13 hK13 => ?_)
      refine S_mv rfl ?_
      first | refine S_fa0 T.f128_1 rfl ?_ | refine S_fa T.f128_1 rfl ?_
      refine S_ldK T.ag3 rfl (fun K' hK' => ?_)
      simp (disch := omega) only [c0, c1, c2, c3, c4, oP_some, Nat.add_zero]
      refine hK' _ ?_; clear hK' K'
      refine S_call T.hb114 rfl ?_
      have hw_sz_ := w2_lt raw (o_ + 1 + nl)
      refine FC.mono (word_spec g5 raw (o_ + 1 + nl) (by omega) hz) ?_
      obtain ⟨sz_, e_sz_⟩ : ∃ x, x = w2 raw (o_ + 1 + nl) := ⟨_, rfl⟩
      rw [← e_sz_] at hw_sz_ ⊢
      rintro v' h' ⟨rfl, rfl⟩
      first | refine S_fa0 T.f128_3 rfl ?_ | refine S_fa T.f128_3 rfl ?_
      refine S_st T.sz3 rfl rfl rfl rfl (by simp (disch := omega) only [sok]) ?_
      generalize hh : putH _ _ _ = g6
      have b6 : B g6 (h.size + 1) (s5 (o_) (o_ + 1 + nl) (0) (sz_) (0)) 128 := by rw [← hh]; exact (b5.put 3 _).cong (by simp [s5])
      have hEg6 : Ext (fun z => z = (h.size + 1)) g5 g6 := by rw [← hh]; exact Ext.put _ _ rfl
      clear hh
      have r6 := r5.ext hEg6 (fun e => by omega)
      try clear c0 c1 c2 c3 c4 sok
      obtain ⟨c0, c1, c2, c3, c4, sok⟩ := s5q (b6)
      refine S_nil (hK13 _ _ (V_keep [0, 1, 2, 6, 9, 10, 11] (by simp only [proj, lk, reduceIte, Nat.reduceEqDiff]; rfl) ?_)); clear hK13
      refine V_sr T.mix (by kernel_rfl) (fun K14 hK14 => ?_)
      refine S_mv rfl ?_
      first | refine S_fa0 T.f128_1 rfl ?_ | refine S_fa T.f128_1 rfl ?_
      refine S_ldK T.ag3 rfl (fun K' hK' => ?_)
      simp (disch := omega) only [c0, c1, c2, c3, c4, oP_some, Nat.add_zero]
      refine hK' _ ?_; clear hK' K'
      refine S_addN (o_ + 1 + nl + 2) rfl rfl (by omega) (by omega) ?_
      refine S_call T.hb114 rfl ?_
      have hw_lg := w2_lt raw (o_ + 1 + nl + 2)
      refine FC.mono (word_spec g6 raw (o_ + 1 + nl + 2) (by omega) hz) ?_
      obtain ⟨lg, e_lg⟩ : ∃ x, x = w2 raw (o_ + 1 + nl + 2) := ⟨_, rfl⟩
      rw [← e_lg] at hw_lg ⊢
      rintro v' h' ⟨rfl, rfl⟩
      refine S_as rfl ?_
      refine S_nil (hK14 _ _ (V_keep [0, 1, 2, 6, 9, 10, 11, 12] (by simp only [proj, lk, reduceIte, Nat.reduceEqDiff]; rfl) ?_)); clear hK14
      refine V_sr T.mix (by kernel_rfl) (fun K15 hK15 => ?_)
      refine S_mv rfl ?_
      first | refine S_fa0 T.f128_1 rfl ?_ | refine S_fa T.f128_1 rfl ?_
      refine S_ldK T.ag3 rfl (fun K' hK' => ?_)
      simp (disch := omega) only [c0, c1, c2, c3, c4, oP_some, Nat.add_zero]
      refine hK' _ ?_; clear hK' K'
      refine S_addN (o_ + 1 + nl + 4) rfl rfl (by omega) (by omega) ?_
      refine S_call T.hb114 rfl ?_
      have hw_sm := w2_lt raw (o_ + 1 + nl + 4)
      refine FC.mono (word_spec g6 raw (o_ + 1 + nl + 4) (by omega) hz) ?_
      obtain ⟨sm, e_sm⟩ : ∃ x, x = w2 raw (o_ + 1 + nl + 4) := ⟨_, rfl⟩
      rw [← e_sm] at hw_sm ⊢
      rintro v' h' ⟨rfl, rfl⟩
      first | refine S_fa0 T.f128_4 rfl ?_ | refine S_fa T.f128_4 rfl ?_
      refine S_st T.sz3 rfl rfl rfl rfl (by simp (disch := omega) only [sok]) ?_
      generalize hh : putH _ _ _ = g7
      have b7 : B g7 (h.size + 1) (s5 (o_) (o_ + 1 + nl) (0) (sz_) (sm)) 128 := by rw [← hh]; exact (b6.put 4 _).cong (by simp [s5])
      have hEg7 : Ext (fun z => z = (h.size + 1)) g6 g7 := by rw [← hh]; exact Ext.put _ _ rfl
      clear hh
      have r7 := r6.ext hEg7 (fun e => by omega)
      try clear c0 c1 c2 c3 c4 sok
      obtain ⟨c0, c1, c2, c3, c4, sok⟩ := s5q (b7)
      refine S_nil (hK15 _ _ (V_keep [1, 2, 6, 9, 10, 11, 12] (by simp only [proj, lk, reduceIte, Nat.reduceEqDiff]; rfl) ?_)); clear hK15
      refine V_sr T.mix (by kernel_rfl) (fun K16 hK16 => ?_)
      refine S_mv rfl ?_
      refine S_mv rfl ?_
      have st_ : (spR raw cell).to = o_ + 1 + nl + 6 + lg := by rw [e_lg, ← sh]; rfl
      have ss : (spR raw cell).size = sz_ := by rw [e_sz_, ← sh]; rfl
      have sm_ : (spR raw cell).sum = sm := by rw [e_sm, ← sh]; rfl
      refine S_addN (o_ + 1 + nl + 6 + lg) rfl rfl (by omega) (by omega) ?_
      first | refine S_fa0 T.f128_2 rfl ?_ | refine S_fa T.f128_2 rfl ?_
      refine S_st T.sz3 rfl rfl rfl rfl (by simp (disch := omega) only [sok]) ?_
      generalize hh : putH _ _ _ = g8
      have b8 : B g8 (h.size + 1) (s5 (o_) (o_ + 1 + nl) (o_ + 1 + nl + 6 + lg) (sz_) (sm)) 128 := by rw [← hh]; exact (b7.put 2 _).cong (by simp [s5])
      have hEg8 : Ext (fun z => z = (h.size + 1)) g7 g8 := by rw [← hh]; exact Ext.put _ _ rfl
      clear hh
      have r8 := r7.ext hEg8 (fun e => by omega)
      try clear c0 c1 c2 c3 c4 sok
      obtain ⟨c0, c1, c2, c3, c4, sok⟩ := s5q (b8)
      try clear rok
      have rok : ∀ j, j < 5 → okPut g8 ⟨h.size, j, none⟩ = true := fun j hj => r8.ok (by simpa [s5] using hj)
      refine S_nil (hK16 _ _ (V_keep [1, 2, 6, 9, 10, 12] (by simp only [proj, lk, reduceIte, Nat.reduceEqDiff]; rfl) ?_)); clear hK16
      refine V_seq (fun K17 hK17 => ?_)
      refine V_sr T.mix (by kernel_rfl) (fun K18 hK18 => ?_)
      first | refine S_fa0 T.f128_2 rfl ?_ | refine S_fa T.f128_2 rfl ?_
      refine S_ldK T.ag3 rfl (fun K' hK' => ?_)
      simp (disch := omega) only [c0, c1, c2, c3, c4, oP_some, Nat.add_zero]
      refine hK' _ ?_; clear hK' K'
      refine S_mv rfl ?_
      refine S_bin rfl rfl rfl ?_
      refine S_nil (hK18 _ _ (V_keep [2, 6, 9, 10, 12, 66] (by simp only [proj, lk, reduceIte, Nat.reduceEqDiff]; rfl) ?_)); clear hK18
      refine V_condp rfl (fun c50 => ?_) (fun c50 => ?_)
      · skip
        refine V_sr T.mix (by kernel_rfl) (fun K19 hK19 => ?_)
        refine S_ldnK T.ag128 rfl (fun K' hK' => ?_)
        simp (disch := omega) only [c0, c1, c2, c3, c4, oPs_cons, oPs_nil, oP_some, Nat.reduceAdd, Nat.add_zero]
        refine hK' _ ?_; clear hK' K'
        refine S_mv rfl ?_
        refine S_stl T.sz128 rfl rfl rfl rfl (fun j hj => by simp (disch := omega) only [rok]) ?_
        generalize hh : putsH _ _ _ _ = hz_
        have hR9 : B hz_ h.size (s5 (o_) (o_ + 1 + nl) (o_ + 1 + nl + 6 + lg) (sz_) (sm)) 128 := by rw [← hh]; exact puts_all r8 (cs' := (s5 (o_) (o_ + 1 + nl) (o_ + 1 + nl + 6 + lg) (sz_) (sm))) rfl
        have hE9 : Ext (fun k => k = h.size) g8 hz_ := by rw [← hh]; exact Ext.puts (S := fun k => k = h.size) rfl _ _ _
        clear hh
        try clear c0 c1 c2 c3 c4 sok
        obtain ⟨c0, c1, c2, c3, c4, sok⟩ := s5q (b8.ext hE9 (fun e => by omega))
        refine S_as rfl ?_
        refine S_as rfl ?_
        refine S_nil (hK19 _ _ (V_keep [6, 7, 8] (by simp only [proj, lk, reduceIte, Nat.reduceEqDiff]; rfl) ?_)); clear hK19
        refine V_ret ?_
        refine hR _ _ (retc3 rfl rfl T.ag128 rfl rfl hR9 (by rfl) ?_)
        have hse : spE raw dir cell = (15, cell) := by unfold spE; rw [if_neg (by rw [so]; omega), if_neg (by rw [sh]; omega), if_pos (by rw [st_]; omega)]
        rw [hse]
        exact ⟨_, _, _, _, _, rfl, fun z => by simp at z, (((((((((((((hEg1.trans hEg2).step hEg3 (fun z hz e => by omega))).step hEg4 (fun z hz e => by omega))).step hEg5 (fun z hz e => by omega))).step hEg6 (fun z hz e => by omega))).step hEg7 (fun z hz e => by omega))).step hEg8 (fun z hz e => by omega))).step hE9 (fun z hz e => by omega)⟩
      · skip
        refine V_skipk [6, 9, 10, 12] (by simp only [proj, lk, reduceIte, Nat.reduceEqDiff]; rfl) ?_
        refine hK17 _ _ ?_; clear hK17
        refine V_seq (fun K20 hK20 => ?_)
        refine V_sr T.mix (by kernel_rfl) (fun K21 hK21 => ?_)
        refine S_mv rfl ?_
        refine S_bin rfl rfl rfl ?_
        refine S_mv rfl ?_
        refine S_dec (fun g53 => ?_) (fun g53 => ?_)
        · skip
          refine S_gf rfl ?_
          refine S_gf rfl ?_
          refine S_pt rfl rfl ?_
          refine S_nil (hK21 _ _ (V_keep [6, 9, 12, 74] (by simp only [proj, lk, reduceIte, Nat.reduceEqDiff]; rfl) ?_)); clear hK21
          refine V_condt rfl ?_
          refine V_srX #[0, 1, 2, 3, 4, 5] [0, 1, 2, 3, 4, 5] #[0, 1, 3, 2, 4, 5] [0, 1, 3, 2, 4, 5] 3 2 T.mix (by kernel_rfl) (fun K22 hK22 => ?_)
          suffices hJ22 : ∀ l h', (∃ (hz_ : Heap), (B hz_ h.size (s5 (o_) (o_ + 1 + nl) (o_ + 1 + nl + 6 + lg) (sz_) (sm)) 128) ∧ (Ext (fun k => k = h.size) g8 hz_) ∧ l = [(6, .pointer (some ⟨h.size, 0, none⟩)), (7, .int .i64 16), (8, .int .i64 (o_ : Int))] ∧ hz_ = h') → K22 l h' by
            refine ⟨?_, ?_⟩
            · skip
              refine S_ldnK T.ag128 rfl (fun K' hK' => ?_)
              simp (disch := omega) only [c0, c1, c2, c3, c4, oPs_cons, oPs_nil, oP_some, Nat.reduceAdd, Nat.add_zero]
              refine hK' _ ?_; clear hK' K'
              first | refine S_fa0 T.f128_0 rfl ?_ | refine S_fa T.f128_0 rfl ?_
              refine S_ldK T.ag3 rfl (fun K' hK' => ?_)
              simp (disch := omega) only [c0, c1, c2, c3, c4, oP_some, Nat.add_zero]
              refine hK' _ ?_; clear hK' K'
              refine S_stl T.sz128 rfl rfl rfl rfl (fun j hj => by simp (disch := omega) only [rok]) ?_
              generalize hh : putsH _ _ _ _ = hz_
              have hR9 : B hz_ h.size (s5 (o_) (o_ + 1 + nl) (o_ + 1 + nl + 6 + lg) (sz_) (sm)) 128 := by rw [← hh]; exact puts_all r8 (cs' := (s5 (o_) (o_ + 1 + nl) (o_ + 1 + nl + 6 + lg) (sz_) (sm))) rfl
              have hE9 : Ext (fun k => k = h.size) g8 hz_ := by rw [← hh]; exact Ext.puts (S := fun k => k = h.size) rfl _ _ _
              clear hh
              try clear c0 c1 c2 c3 c4 sok
              obtain ⟨c0, c1, c2, c3, c4, sok⟩ := s5q (b8.ext hE9 (fun e => by omega))
              refine S_as rfl ?_
              refine S_as rfl ?_
              refine S_nilk [6, 7, 8] (by simp only [proj, lk, reduceIte, Nat.reduceEqDiff]; rfl) ?_
              exact hJ22 _ _ ⟨hz_, hR9, hE9, rfl, rfl⟩
            · skip
              refine S_ldnK T.ag128 rfl (fun K' hK' => ?_)
              simp (disch := omega) only [c0, c1, c2, c3, c4, oPs_cons, oPs_nil, oP_some, Nat.reduceAdd, Nat.add_zero]
              refine hK' _ ?_; clear hK' K'
              first | refine S_fa0 T.f128_0 rfl ?_ | refine S_fa T.f128_0 rfl ?_
              refine S_stl T.sz128 rfl rfl rfl rfl (fun j hj => by simp (disch := omega) only [rok]) ?_
              generalize hh : putsH _ _ _ _ = hz_
              have hR9 : B hz_ h.size (s5 (o_) (o_ + 1 + nl) (o_ + 1 + nl + 6 + lg) (sz_) (sm)) 128 := by rw [← hh]; exact puts_all r8 (cs' := (s5 (o_) (o_ + 1 + nl) (o_ + 1 + nl + 6 + lg) (sz_) (sm))) rfl
              have hE9 : Ext (fun k => k = h.size) g8 hz_ := by rw [← hh]; exact Ext.puts (S := fun k => k = h.size) rfl _ _ _
              clear hh
              try clear c0 c1 c2 c3 c4 sok
              obtain ⟨c0, c1, c2, c3, c4, sok⟩ := s5q (b8.ext hE9 (fun e => by omega))
              refine S_ldK T.ag3 rfl (fun K' hK' => ?_)
              simp (disch := omega) only [c0, c1, c2, c3, c4, oP_some, Nat.add_zero]
              refine hK' _ ?_; clear hK' K'
              refine S_as rfl ?_
              refine S_as rfl ?_
              refine S_nilk [6, 7, 8] (by simp only [proj, lk, reduceIte, Nat.reduceEqDiff]; rfl) ?_
              exact hJ22 _ _ ⟨hz_, hR9, hE9, rfl, rfl⟩
          rintro l h' ⟨hz_, hR9, hE9, rfl, rfl⟩
          refine hK22 _ _ ?_; clear hK22
          refine V_ret ?_
          refine hR _ _ (retc3 rfl rfl T.ag128 rfl rfl hR9 (by rfl) ?_)
          have hse : spE raw dir cell = (16, o_) := by unfold spE; rw [if_neg (by rw [so]; omega), if_neg (by rw [sh]; omega), if_neg (by rw [st_]; omega), if_pos (by rw [so, ← en]; omega), so]
          rw [hse]
          exact ⟨_, _, _, _, _, rfl, fun z => by simp at z, (((((((((((((hEg1.trans hEg2).step hEg3 (fun z hz e => by omega))).step hEg4 (fun z hz e => by omega))).step hEg5 (fun z hz e => by omega))).step hEg6 (fun z hz e => by omega))).step hEg7 (fun z hz e => by omega))).step hEg8 (fun z hz e => by omega))).step hE9 (fun z hz e => by omega)⟩
        · skip
          refine S_gt rfl ?_
          refine S_mv rfl ?_
          refine S_gt rfl ?_
          refine S_bin rfl rfl rfl ?_
          refine S_pf rfl rfl ?_
          refine S_nil (hK21 _ _ (V_keep [6, 9, 12, 74] (by simp only [proj, lk, reduceIte, Nat.reduceEqDiff]; rfl) ?_)); clear hK21
          refine V_condp rfl (fun c53 => ?_) (fun c53 => ?_)
          · skip
            refine V_srX #[0, 1, 2, 3, 4, 5] [0, 1, 2, 3, 4, 5] #[0, 1, 3, 2, 4, 5] [0, 1, 3, 2, 4, 5] 3 2 T.mix (by kernel_rfl) (fun K23 hK23 => ?_)
            suffices hJ23 : ∀ l h', (∃ (hz_ : Heap), (B hz_ h.size (s5 (o_) (o_ + 1 + nl) (o_ + 1 + nl + 6 + lg) (sz_) (sm)) 128) ∧ (Ext (fun k => k = h.size) g8 hz_) ∧ l = [(6, .pointer (some ⟨h.size, 0, none⟩)), (7, .int .i64 16), (8, .int .i64 (o_ : Int))] ∧ hz_ = h') → K23 l h' by
              refine ⟨?_, ?_⟩
              · skip
                refine S_ldnK T.ag128 rfl (fun K' hK' => ?_)
                simp (disch := omega) only [c0, c1, c2, c3, c4, oPs_cons, oPs_nil, oP_some, Nat.reduceAdd, Nat.add_zero]
                refine hK' _ ?_; clear hK' K'
                first | refine S_fa0 T.f128_0 rfl ?_ | refine S_fa T.f128_0 rfl ?_
                refine S_ldK T.ag3 rfl (fun K' hK' => ?_)
                simp (disch := omega) only [c0, c1, c2, c3, c4, oP_some, Nat.add_zero]
                refine hK' _ ?_; clear hK' K'
                refine S_stl T.sz128 rfl rfl rfl rfl (fun j hj => by simp (disch := omega) only [rok]) ?_
                generalize hh : putsH _ _ _ _ = hz_
                have hR9 : B hz_ h.size (s5 (o_) (o_ + 1 + nl) (o_ + 1 + nl + 6 + lg) (sz_) (sm)) 128 := by rw [← hh]; exact puts_all r8 (cs' := (s5 (o_) (o_ + 1 + nl) (o_ + 1 + nl + 6 + lg) (sz_) (sm))) rfl
                have hE9 : Ext (fun k => k = h.size) g8 hz_ := by rw [← hh]; exact Ext.puts (S := fun k => k = h.size) rfl _ _ _
                clear hh
                try clear c0 c1 c2 c3 c4 sok
                obtain ⟨c0, c1, c2, c3, c4, sok⟩ := s5q (b8.ext hE9 (fun e => by omega))
                refine S_as rfl ?_
                refine S_as rfl ?_
                refine S_nilk [6, 7, 8] (by simp only [proj, lk, reduceIte, Nat.reduceEqDiff]; rfl) ?_
                exact hJ23 _ _ ⟨hz_, hR9, hE9, rfl, rfl⟩
              · skip
                refine S_ldnK T.ag128 rfl (fun K' hK' => ?_)
                simp (disch := omega) only [c0, c1, c2, c3, c4, oPs_cons, oPs_nil, oP_some, Nat.reduceAdd, Nat.add_zero]
                refine hK' _ ?_; clear hK' K'
                first | refine S_fa0 T.f128_0 rfl ?_ | refine S_fa T.f128_0 rfl ?_
                refine S_stl T.sz128 rfl rfl rfl rfl (fun j hj => by simp (disch := omega) only [rok]) ?_
                generalize hh : putsH _ _ _ _ = hz_
                have hR9 : B hz_ h.size (s5 (o_) (o_ + 1 + nl) (o_ + 1 + nl + 6 + lg) (sz_) (sm)) 128 := by rw [← hh]; exact puts_all r8 (cs' := (s5 (o_) (o_ + 1 + nl) (o_ + 1 + nl + 6 + lg) (sz_) (sm))) rfl
                have hE9 : Ext (fun k => k = h.size) g8 hz_ := by rw [← hh]; exact Ext.puts (S := fun k => k = h.size) rfl _ _ _
                clear hh
                try clear c0 c1 c2 c3 c4 sok
                obtain ⟨c0, c1, c2, c3, c4, sok⟩ := s5q (b8.ext hE9 (fun e => by omega))
                refine S_ldK T.ag3 rfl (fun K' hK' => ?_)
                simp (disch := omega) only [c0, c1, c2, c3, c4, oP_some, Nat.add_zero]
                refine hK' _ ?_; clear hK' K'
                refine S_as rfl ?_
                refine S_as rfl ?_
                refine S_nilk [6, 7, 8] (by simp only [proj, lk, reduceIte, Nat.reduceEqDiff]; rfl) ?_
                exact hJ23 _ _ ⟨hz_, hR9, hE9, rfl, rfl⟩
            rintro l h' ⟨hz_, hR9, hE9, rfl, rfl⟩
            refine hK23 _ _ ?_; clear hK23
            refine V_ret ?_
            refine hR _ _ (retc3 rfl rfl T.ag128 rfl rfl hR9 (by rfl) ?_)
            have hse : spE raw dir cell = (16, o_) := by unfold spE; rw [if_neg (by rw [so]; omega), if_neg (by rw [sh]; omega), if_neg (by rw [st_]; omega), if_pos (by rw [so, ← en]; omega), so]
            rw [hse]
            exact ⟨_, _, _, _, _, rfl, fun z => by simp at z, (((((((((((((hEg1.trans hEg2).step hEg3 (fun z hz e => by omega))).step hEg4 (fun z hz e => by omega))).step hEg5 (fun z hz e => by omega))).step hEg6 (fun z hz e => by omega))).step hEg7 (fun z hz e => by omega))).step hEg8 (fun z hz e => by omega))).step hE9 (fun z hz e => by omega)⟩
          · skip
            refine V_skipk [6, 9, 12] (by simp only [proj, lk, reduceIte, Nat.reduceEqDiff]; rfl) ?_
            refine hK20 _ _ ?_; clear hK20
            refine V_seq (fun K24 hK24 => ?_)
            refine V_sr T.mix (by kernel_rfl) (fun K25 hK25 => ?_)
            first | refine S_fa0 T.f128_3 rfl ?_ | refine S_fa T.f128_3 rfl ?_
            refine S_ldK T.ag3 rfl (fun K' hK' => ?_)
            simp (disch := omega) only [c0, c1, c2, c3, c4, oP_some, Nat.add_zero]
            refine hK' _ ?_; clear hK' K'
            refine S_bin rfl rfl rfl ?_
            refine S_nil (hK25 _ _ (V_keep [6, 9, 12, 80] (by simp only [proj, lk, reduceIte, Nat.reduceEqDiff]; rfl) ?_)); clear hK25
            refine V_condp rfl (fun c56 => ?_) (fun c56 => ?_)
            · skip
              refine V_srX #[0, 1, 2, 3, 4, 5] [0, 1, 2, 3, 4, 5] #[0, 1, 3, 2, 4, 5] [0, 1, 3, 2, 4, 5] 3 2 T.mix (by kernel_rfl) (fun K26 hK26 => ?_)
              suffices hJ26 : ∀ l h', (∃ (hz_ : Heap), (B hz_ h.size (s5 (o_) (o_ + 1 + nl) (o_ + 1 + nl + 6 + lg) (sz_) (sm)) 128) ∧ (Ext (fun k => k = h.size) g8 hz_) ∧ l = [(6, .pointer (some ⟨h.size, 0, none⟩)), (7, .int .i64 19), (8, .int .i64 (o_ : Int))] ∧ hz_ = h') → K26 l h' by
                refine ⟨?_, ?_⟩
                · skip
                  refine S_ldnK T.ag128 rfl (fun K' hK' => ?_)
                  simp (disch := omega) only [c0, c1, c2, c3, c4, oPs_cons, oPs_nil, oP_some, Nat.reduceAdd, Nat.add_zero]
                  refine hK' _ ?_; clear hK' K'
                  first | refine S_fa0 T.f128_0 rfl ?_ | refine S_fa T.f128_0 rfl ?_
                  refine S_ldK T.ag3 rfl (fun K' hK' => ?_)
                  simp (disch := omega) only [c0, c1, c2, c3, c4, oP_some, Nat.add_zero]
                  refine hK' _ ?_; clear hK' K'
                  refine S_stl T.sz128 rfl rfl rfl rfl (fun j hj => by simp (disch := omega) only [rok]) ?_
                  generalize hh : putsH _ _ _ _ = hz_
                  have hR9 : B hz_ h.size (s5 (o_) (o_ + 1 + nl) (o_ + 1 + nl + 6 + lg) (sz_) (sm)) 128 := by rw [← hh]; exact puts_all r8 (cs' := (s5 (o_) (o_ + 1 + nl) (o_ + 1 + nl + 6 + lg) (sz_) (sm))) rfl
                  have hE9 : Ext (fun k => k = h.size) g8 hz_ := by rw [← hh]; exact Ext.puts (S := fun k => k = h.size) rfl _ _ _
                  clear hh
                  try clear c0 c1 c2 c3 c4 sok
                  obtain ⟨c0, c1, c2, c3, c4, sok⟩ := s5q (b8.ext hE9 (fun e => by omega))
                  refine S_as rfl ?_
                  refine S_as rfl ?_
                  refine S_nilk [6, 7, 8] (by simp only [proj, lk, reduceIte, Nat.reduceEqDiff]; rfl) ?_
                  exact hJ26 _ _ ⟨hz_, hR9, hE9, rfl, rfl⟩
                · skip
                  refine S_ldnK T.ag128 rfl (fun K' hK' => ?_)
                  simp (disch := omega) only [c0, c1, c2, c3, c4, oPs_cons, oPs_nil, oP_some, Nat.reduceAdd, Nat.add_zero]
                  refine hK' _ ?_; clear hK' K'
                  first | refine S_fa0 T.f128_0 rfl ?_ | refine S_fa T.f128_0 rfl ?_
                  refine S_stl T.sz128 rfl rfl rfl rfl (fun j hj => by simp (disch := omega) only [rok]) ?_
                  generalize hh : putsH _ _ _ _ = hz_
                  have hR9 : B hz_ h.size (s5 (o_) (o_ + 1 + nl) (o_ + 1 + nl + 6 + lg) (sz_) (sm)) 128 := by rw [← hh]; exact puts_all r8 (cs' := (s5 (o_) (o_ + 1 + nl) (o_ + 1 + nl + 6 + lg) (sz_) (sm))) rfl
                  have hE9 : Ext (fun k => k = h.size) g8 hz_ := by rw [← hh]; exact Ext.puts (S := fun k => k = h.size) rfl _ _ _
                  clear hh
                  try clear c0 c1 c2 c3 c4 sok
                  obtain ⟨c0, c1, c2, c3, c4, sok⟩ := s5q (b8.ext hE9 (fun e => by omega))
                  refine S_ldK T.ag3 rfl (fun K' hK' => ?_)
                  simp (disch := omega) only [c0, c1, c2, c3, c4, oP_some, Nat.add_zero]
                  refine hK' _ ?_; clear hK' K'
                  refine S_as rfl ?_
                  refine S_as rfl ?_
                  refine S_nilk [6, 7, 8] (by simp only [proj, lk, reduceIte, Nat.reduceEqDiff]; rfl) ?_
                  exact hJ26 _ _ ⟨hz_, hR9, hE9, rfl, rfl⟩
              rintro l h' ⟨hz_, hR9, hE9, rfl, rfl⟩
              refine hK26 _ _ ?_; clear hK26
              refine V_ret ?_
              refine hR _ _ (retc3 rfl rfl T.ag128 rfl rfl hR9 (by rfl) ?_)
              have hse : spE raw dir cell = (19, o_) := by unfold spE; rw [if_neg (by rw [so]; omega), if_neg (by rw [sh]; omega), if_neg (by rw [st_]; omega), if_neg (by rw [so, ← en]; omega), if_pos (by rw [ss]; omega), so]
              rw [hse]
              exact ⟨_, _, _, _, _, rfl, fun z => by simp at z, (((((((((((((hEg1.trans hEg2).step hEg3 (fun z hz e => by omega))).step hEg4 (fun z hz e => by omega))).step hEg5 (fun z hz e => by omega))).step hEg6 (fun z hz e => by omega))).step hEg7 (fun z hz e => by omega))).step hEg8 (fun z hz e => by omega))).step hE9 (fun z hz e => by omega)⟩
            · skip
              refine V_skipk [6, 9, 12] (by simp only [proj, lk, reduceIte, Nat.reduceEqDiff]; rfl) ?_
              refine hK24 _ _ ?_; clear hK24
              refine V_seq (fun K27 hK27 => ?_)
              refine V_sr T.mix (by kernel_rfl) (fun K28 hK28 => ?_)
              refine S_mv rfl ?_
              refine S_bin rfl rfl rfl ?_
              refine S_nil (hK28 _ _ (V_keep [6, 9, 85] (by simp only [proj, lk, reduceIte, Nat.reduceEqDiff]; rfl) ?_)); clear hK28
              refine V_condp rfl (fun c59 => ?_) (fun c59 => ?_)
              · skip
                refine V_srX #[0, 1, 2, 3, 4, 5] [0, 1, 2, 3, 4, 5] #[0, 1, 3, 2, 4, 5] [0, 1, 3, 2, 4, 5] 3 2 T.mix (by kernel_rfl) (fun K29 hK29 => ?_)
                suffices hJ29 : ∀ l h', (∃ (hz_ : Heap), (B hz_ h.size (s5 (o_) (o_ + 1 + nl) (o_ + 1 + nl + 6 + lg) (sz_) (sm)) 128) ∧ (Ext (fun k => k = h.size) g8 hz_) ∧ l = [(6, .pointer (some ⟨h.size, 0, none⟩)), (7, .int .i64 1), (8, .int .i64 (o_ : Int))] ∧ hz_ = h') → K29 l h' by
                  refine ⟨?_, ?_⟩
                  · skip
                    refine S_ldnK T.ag128 rfl (fun K' hK' => ?_)
                    simp (disch := omega) only [c0, c1, c2, c3, c4, oPs_cons, oPs_nil, oP_some, Nat.reduceAdd, Nat.add_zero]
                    refine hK' _ ?_; clear hK' K'
                    first | refine S_fa0 T.f128_0 rfl ?_ | refine S_fa T.f128_0 rfl ?_
                    refine S_ldK T.ag3 rfl (fun K' hK' => ?_)
                    simp (disch := omega) only [c0, c1, c2, c3, c4, oP_some, Nat.add_zero]
                    refine hK' _ ?_; clear hK' K'
                    refine S_stl T.sz128 rfl rfl rfl rfl (fun j hj => by simp (disch := omega) only [rok]) ?_
                    generalize hh : putsH _ _ _ _ = hz_
                    have hR9 : B hz_ h.size (s5 (o_) (o_ + 1 + nl) (o_ + 1 + nl + 6 + lg) (sz_) (sm)) 128 := by rw [← hh]; exact puts_all r8 (cs' := (s5 (o_) (o_ + 1 + nl) (o_ + 1 + nl + 6 + lg) (sz_) (sm))) rfl
                    have hE9 : Ext (fun k => k = h.size) g8 hz_ := by rw [← hh]; exact Ext.puts (S := fun k => k = h.size) rfl _ _ _
                    clear hh
                    try clear c0 c1 c2 c3 c4 sok
                    obtain ⟨c0, c1, c2, c3, c4, sok⟩ := s5q (b8.ext hE9 (fun e => by omega))
                    refine S_as rfl ?_
                    refine S_as rfl ?_
                    refine S_nilk [6, 7, 8] (by simp only [proj, lk, reduceIte, Nat.reduceEqDiff]; rfl) ?_
                    exact hJ29 _ _ ⟨hz_, hR9, hE9, rfl, rfl⟩
                  · skip
                    refine S_ldnK T.ag128 rfl (fun K' hK' => ?_)
                    simp (disch := omega) only [c0, c1, c2, c3, c4, oPs_cons, oPs_nil, oP_some, Nat.reduceAdd, Nat.add_zero]
                    refine hK' _ ?_; clear hK' K'
                    first | refine S_fa0 T.f128_0 rfl ?_ | refine S_fa T.f128_0 rfl ?_
                    refine S_stl T.sz128 rfl rfl rfl rfl (fun j hj => by simp (disch := omega) only [rok]) ?_
                    generalize hh : putsH _ _ _ _ = hz_
                    have hR9 : B hz_ h.size (s5 (o_) (o_ + 1 + nl) (o_ + 1 + nl + 6 + lg) (sz_) (sm)) 128 := by rw [← hh]; exact puts_all r8 (cs' := (s5 (o_) (o_ + 1 + nl) (o_ + 1 + nl + 6 + lg) (sz_) (sm))) rfl
                    have hE9 : Ext (fun k => k = h.size) g8 hz_ := by rw [← hh]; exact Ext.puts (S := fun k => k = h.size) rfl _ _ _
                    clear hh
                    try clear c0 c1 c2 c3 c4 sok
                    obtain ⟨c0, c1, c2, c3, c4, sok⟩ := s5q (b8.ext hE9 (fun e => by omega))
                    refine S_ldK T.ag3 rfl (fun K' hK' => ?_)
                    simp (disch := omega) only [c0, c1, c2, c3, c4, oP_some, Nat.add_zero]
                    refine hK' _ ?_; clear hK' K'
                    refine S_as rfl ?_
                    refine S_as rfl ?_
                    refine S_nilk [6, 7, 8] (by simp only [proj, lk, reduceIte, Nat.reduceEqDiff]; rfl) ?_
                    exact hJ29 _ _ ⟨hz_, hR9, hE9, rfl, rfl⟩
                rintro l h' ⟨hz_, hR9, hE9, rfl, rfl⟩
                refine hK29 _ _ ?_; clear hK29
                refine V_ret ?_
                refine hR _ _ (retc3 rfl rfl T.ag128 rfl rfl hR9 (by rfl) ?_)
                have hse : spE raw dir cell = (1, o_) := by unfold spE; rw [if_neg (by rw [so]; omega), if_neg (by rw [sh]; omega), if_neg (by rw [st_]; omega), if_neg (by rw [so, ← en]; omega), if_neg (by rw [ss]; omega), if_pos (by rw [sh, ← e_lg]; omega), so]
                rw [hse]
                exact ⟨_, _, _, _, _, rfl, fun z => by simp at z, (((((((((((((hEg1.trans hEg2).step hEg3 (fun z hz e => by omega))).step hEg4 (fun z hz e => by omega))).step hEg5 (fun z hz e => by omega))).step hEg6 (fun z hz e => by omega))).step hEg7 (fun z hz e => by omega))).step hEg8 (fun z hz e => by omega))).step hE9 (fun z hz e => by omega)⟩
              · skip
                refine V_skipk [6, 9] (by simp only [proj, lk, reduceIte, Nat.reduceEqDiff]; rfl) ?_
                refine hK27 _ _ ?_; clear hK27
                refine V_sr T.mix (by kernel_rfl) (fun K30 hK30 => ?_)
                refine S_ldnK T.ag128 rfl (fun K' hK' => ?_)
                simp (disch := omega) only [c0, c1, c2, c3, c4, oPs_cons, oPs_nil, oP_some, Nat.reduceAdd, Nat.add_zero]
                refine hK' _ ?_; clear hK' K'
                refine S_stl T.sz128 rfl rfl rfl rfl (fun j hj => by simp (disch := omega) only [rok]) ?_
                generalize hh : putsH _ _ _ _ = hz_
                have hR9 : B hz_ h.size (s5 (o_) (o_ + 1 + nl) (o_ + 1 + nl + 6 + lg) (sz_) (sm)) 128 := by rw [← hh]; exact puts_all r8 (cs' := (s5 (o_) (o_ + 1 + nl) (o_ + 1 + nl + 6 + lg) (sz_) (sm))) rfl
                have hE9 : Ext (fun k => k = h.size) g8 hz_ := by rw [← hh]; exact Ext.puts (S := fun k => k = h.size) rfl _ _ _
                clear hh
                try clear c0 c1 c2 c3 c4 sok
                obtain ⟨c0, c1, c2, c3, c4, sok⟩ := s5q (b8.ext hE9 (fun e => by omega))
                refine S_as rfl ?_
                refine S_as rfl ?_
                refine S_nil (hK30 _ _ (V_keep [6, 7, 8] (by simp only [proj, lk, reduceIte, Nat.reduceEqDiff]; rfl) ?_)); clear hK30
                refine V_ret ?_
                refine hR _ _ (retc3 rfl rfl T.ag128 rfl rfl hR9 (by rfl) ?_)
                have hse : spE raw dir cell = (0, 0) := by unfold spE; rw [if_neg (by rw [so]; omega), if_neg (by rw [sh]; omega), if_neg (by rw [st_]; omega), if_neg (by rw [so, ← en]; omega), if_neg (by rw [ss]; omega), if_neg (by rw [sh, ← e_lg]; omega)]
                rw [hse]
                exact ⟨_, _, _, _, _, rfl, fun _ => ⟨so.symm, sh.symm, st_.symm, ss.symm, sm_.symm⟩, (((((((((((((hEg1.trans hEg2).step hEg3 (fun z hz e => by omega))).step hEg4 (fun z hz e => by omega))).step hEg5 (fun z hz e => by omega))).step hEg6 (fun z hz e => by omega))).step hEg7 (fun z hz e => by omega))).step hEg8 (fun z hz e => by omega))).step hE9 (fun z hz e => by omega)⟩
end Go.Proofs.Qxb6500404aGreat
