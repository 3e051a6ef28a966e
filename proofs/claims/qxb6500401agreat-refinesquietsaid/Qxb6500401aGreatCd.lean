import Derived.Test.Qxb6500401aGreatCc
import Derived.Test.Qxb6500401aGreatEj
set_option linter.unusedVariables false
set_option linter.unusedSimpArgs false
namespace Go.Proofs.Qxb6500401aGreat.ChkW
open Go.Eng Go.Cnf

theorem feed_val {p : PS} {c i : Nat} (h : p.val ≤ 13) : (feedF p c i).val ≤ 13 := by
  have hc : ccls c = 2 → c - 48 ≤ 9 := fun e => by have := cls_dig.1 e; unfold dig at this; omega
  have hs : ∀ v, satF v c ≤ 13 := fun v => by unfold satF; split <;> omega
  have hn : ∀ q : PS, q.val ≤ 13 → (numberF q).val ≤ 13 := by
    intro q hq; unfold numberF failF endRowF; repeat' split
    all_goals exact hq
  unfold feedF beginF failF
  simp only
  repeat' split
  all_goals first | exact h | exact hn _ h | exact hs _ | (have := hc (by assumption); simp only; omega) | (simp only; omega)
theorem run_val {f : Nat → Nat} : ∀ (n i : Nat) (p : PS), p.val ≤ 13 → (run f n i p).val ≤ 13
  | 0, _, _, h => h
  | n + 1, i, p, h => by
    rw [run_succ]; split
    · exact run_val n _ _ (feed_val h)
    · exact h
theorem run_len {f : Nat → Nat} : ∀ (n i : Nat) (p : PS), (run f n i p).arena.length ≤ p.arena.length + 26 * n
  | 0, _, _ => by simp [run]
  | n + 1, i, p => by
    rw [run_succ]; split
    · have := run_len (f := f) n (i + 1) (feedF p (f i) i); have := feed_len p (f i) i; omega
    · omega
theorem run_stuck {f : Nat → Nat} {i k n : Nat} {p : PS} (h : (run f k i p).err ≠ 0) (hk : k ≤ n) : run f n i p = run f k i p := by
  rw [show n = k + (n - k) by omega, run_add, run_err h]
theorem bAt_lt (s : ByteArray) (n : Nat) : bAt s n < 256 := by unfold bAt; exact UInt8.toNat_lt _
theorem bx_lt (s : ByteArray) (i : Nat) : bx s i < 256 := by
  unfold bx; split
  · exact bAt_lt s i
  · omega
/-- what Parse answers, in the heap -/
def Ans (lo : Nat) (h : Heap) (r : Res) (cs : Array Value) : Prop := ∃ a, (∀ b, blkA a = some b → lo ≤ b) ∧ cs = #[.int .i64 r.1, .int .i64 r.2.1, .slice a r.2.2.length r.2.2.length] ∧ IL h a r.2.2.length r.2.2 ∧ (r.2.2.length = 0 → a = none)

theorem run_loc0 {f : Nat → Nat} : ∀ (n i : Nat) (p : PS), p.loc = 0 → (run f n i p).err = 0 → (run f n i p).loc = 0
  | 0, _, _, h, _ => h
  | n + 1, i, p, h, he => by
    rw [run_last] at he ⊢
    split at he
    · rename_i h0
      rw [if_pos h0]
      have h1 := run_loc0 n i p h h0
      revert he
      generalize run f n i p = q at *
      have hn : ∀ r : PS, r.loc = 0 → r.err = 0 → (numberF r).err = 0 → (numberF r).loc = 0 := by
        intro r hr hr0; unfold numberF failF endRowF; repeat' split
        all_goals (intro he; first | exact hr | cases he)
      unfold feedF beginF failF
      simp only
      repeat' split
      all_goals first | (intro he; first | exact h1 | (cases he; done)) | exact fun he => hn _ h1 h0 he
    · rename_i h0; rw [if_neg h0]; exact absurd he h0
theorem Par.ext {h h' : Heap} {X : Nat} {a : Option Addr} {cap : Nat} {p : PS} {S : Nat → Prop} (hP : Par h X a cap p) (he : Ext S h h') (h1 : ¬ S X) (h2 : ∀ b, blkA a = some b → ¬ S b) : Par h' X a cap p :=
  ⟨hP.s.ext he h1, hP.ar.ext he h2, hP.n, hP.bd⟩
theorem PEx.new {X : Nat} {h h1 h2 : Heap} {a b : Option Addr} {T : Nat → Prop} (x : PEx X h h1 a b) (he : Ext T h1 h2) (hT : ∀ k, k < h.size → ¬ T k) : PEx X h h2 a b :=
  ⟨x.1.step he (fun k hk e => absurd e (hT k hk)), x.2⟩
theorem keepB {X : Nat} {h h2 : Heap} {a a2 : Option Addr} {b : Nat} {cs : Array Value} {t : TypeId} (hb : B h b cs t) (hx : PEx X h h2 a a2) (h1 : b ≠ X) (h2' : blkA a ≠ some b) : B h2 b cs t ∧ blkA a2 ≠ some b := by
  refine ⟨hb.ext hx.1 (fun e => by rcases e with e | e; exact h1 e; exact h2' e), fun e => ?_⟩
  rcases hx.2 b e with e | e
  · exact h2' e
  · have := hb.lt; omega
theorem B.puts_all {h : Heap} {b : Nat} {cs cs' : Array Value} {t : TypeId} (hb : B h b cs t) (hs : cs'.size = cs.size) : B (putsH h b 0 cs'.toList) b cs' t := by
  obtain ⟨c2, e2, e3, e4, e5, e6, e7⟩ := putsH_eq cs'.toList 0 h cs hb (by simp; omega)
  refine e2.cong (Array.ext' (List.ext_getElem? fun i => ?_))
  by_cases hi : i < cs'.size
  · have := e4 i (by simpa using hi); simp at this ⊢; rw [this]
  · simp; rw [Array.getElem?_eq_none (by omega), Array.getElem?_eq_none (by omega)]

theorem parse_fin {s : ByteArray} (hs : ¬ 1048576 < s.size) : let q := run (bx s) (s.size + 1) 0 p0
    (q.err = 0 ∧ q.opn = true → parseF s = (5, s.size, [])) ∧ (¬ (q.err = 0 ∧ q.opn = true) → parseF s = if q.err ≠ 0 then (q.err, q.loc, []) else (0, 0, q.arena)) := by
  intro q
  have e : parseF s = outF s.size q := by unfold parseF; rw [if_neg hs]
  rw [e]; unfold outF
  refine ⟨fun ⟨h1, h2⟩ => by simp [h1, h2], fun h => ?_⟩
  by_cases h1 : q.err = 0
  · have h2 : q.opn = false := by cases hh : q.opn; rfl; exact absurd ⟨h1, hh⟩ h
    simp [h1, h2]
  · simp [h1]
set_option maxHeartbeats 400000 in
theorem rest_spec (h : Heap) (X : Nat) (a : Option Addr) (cap : Nat) (p : PS) (hP : Par h X a cap p) :
    FC Tryz.prog 84 (#[.pointer (some ⟨X, 0, none⟩)] : Array Value) h fun v h' => v = .tuple #[] ∧ ∃ a' cap', Par h' X a' cap' (p0) ∧ PEx X h h' a a' := by
  refine FC_of [(0, .pointer (some ⟨X, 0, none⟩))] Tryz.func84 rfl Tryz.ntmps84 (by simp) rfl (fun R hR => ?_)
  have hX := PEx.refl X h a
  refine V_sr T.mix (by kernel_rfl) (fun K1 hK1 => ?_)
  refine S_mv rfl ?_
  refine S_mv rfl ?_
  refine S_nc rfl ?_
  first | refine S_fa0 T.f100_0 rfl ?_ | refine S_fa T.f100_0 rfl ?_
  refine S_ldK T.ag49 rfl (fun K' hK' => ?_)
  simp (disch := omega) only [hP.c0, hP.c1, hP.c2, hP.c3, hP.c4, hP.c5, hP.c6, hP.c7, hP.c8, hP.c9, hP.c10, oP_some, Nat.add_zero]
  refine hK' _ ?_; clear hK' K'
  refine S_sl rfl rfl rfl (sliceV_cut0 T.el49) ?_
  refine S_nc rfl ?_
  first | refine S_fa0 T.f100_0 rfl ?_ | refine S_fa T.f100_0 rfl ?_
  refine S_st T.sz49 rfl rfl rfl rfl (by simp (disch := omega) only [hP.ok]) ?_
  generalize hh : putH _ _ _ = h1
  replace hP : Par h1 X a cap { p with arena := [] } := by rw [← hh]; exact Par.arena (l := []) hP.s hP.ar.cut hP.n hP.bd
  replace hX : PEx X h h1 a a := by rw [← hh]; exact hX.putH _ _
  clear hh
  refine S_nil (hK1 _ _ (V_keep [0] (by simp only [proj, lk, reduceIte, Nat.reduceEqDiff]; rfl) ?_)); clear hK1
  refine V_sr T.mix (by kernel_rfl) (fun K2 hK2 => ?_)
  refine S_mv rfl ?_
  refine S_mv rfl ?_
  refine S_mv rfl ?_
  refine S_mv rfl ?_
  refine S_nc rfl ?_
  first | refine S_fa0 T.f100_1 rfl ?_ | refine S_fa T.f100_1 rfl ?_
  refine S_st T.sz3 rfl rfl rfl rfl (by simp (disch := omega) only [hP.ok]) ?_
  generalize hh : putH _ _ _ = h2
  replace hP : Par h2 X a cap { p with arena := [], state := 0 } := by rw [← hh]; exact hP.put 1 _ rfl rfl (hP.bd)
  replace hX : PEx X h h2 a a := by rw [← hh]; exact hX.putH _ _
  clear hh
  refine S_nc rfl ?_
  first | refine S_fa0 T.f100_2 rfl ?_ | refine S_fa T.f100_2 rfl ?_
  refine S_st T.sz3 rfl rfl rfl rfl (by simp (disch := omega) only [hP.ok]) ?_
  generalize hh : putH _ _ _ = h3
  replace hP : Par h3 X a cap { p with arena := [], state := 0, start := 0 } := by rw [← hh]; exact hP.put 2 _ rfl rfl (hP.bd)
  replace hX : PEx X h h3 a a := by rw [← hh]; exact hX.putH _ _
  clear hh
  refine S_nc rfl ?_
  first | refine S_fa0 T.f100_3 rfl ?_ | refine S_fa T.f100_3 rfl ?_
  refine S_st T.sz4 rfl rfl rfl rfl (by simp (disch := omega) only [hP.ok]) ?_
  generalize hh : putH _ _ _ = h4
  replace hP : Par h4 X a cap { p with arena := [], state := 0, start := 0, minus := false } := by rw [← hh]; exact hP.put 3 _ rfl rfl (hP.bd)
  replace hX : PEx X h h4 a a := by rw [← hh]; exact hX.putH _ _
  clear hh
  refine S_nc rfl ?_
  first | refine S_fa0 T.f100_4 rfl ?_ | refine S_fa T.f100_4 rfl ?_
  refine S_st T.sz3 rfl rfl rfl rfl (by simp (disch := omega) only [hP.ok]) ?_
  generalize hh : putH _ _ _ = h5
  replace hP : Par h5 X a cap { p with arena := [], state := 0, start := 0, minus := false, val := 0 } := by rw [← hh]; exact hP.put 4 _ rfl rfl (⟨by simp, hP.bd.2⟩)
  replace hX : PEx X h h5 a a := by rw [← hh]; exact hX.putH _ _
  clear hh
  refine S_nil (hK2 _ _ (V_keep [0] (by simp only [proj, lk, reduceIte, Nat.reduceEqDiff]; rfl) ?_)); clear hK2
  refine V_sr T.mix (by kernel_rfl) (fun K3 hK3 => ?_)
  refine S_mv rfl ?_
  refine S_mv rfl ?_
  refine S_mv rfl ?_
  refine S_mv rfl ?_
  refine S_nc rfl ?_
  first | refine S_fa0 T.f100_5 rfl ?_ | refine S_fa T.f100_5 rfl ?_
  refine S_st T.sz51 rfl rfl rfl rfl (by simp (disch := omega) only [hP.ok]) ?_
  generalize hh : putH _ _ _ = h6
  replace hP : Par h6 X a cap { p with arena := [], state := 0, start := 0, minus := false, val := 0, pos := 0 } := by rw [← hh]; exact hP.put 5 _ rfl rfl (⟨hP.bd.1, by simp, hP.bd.2.2⟩)
  replace hX : PEx X h h6 a a := by rw [← hh]; exact hX.putH _ _
  clear hh
  refine S_nc rfl ?_
  first | refine S_fa0 T.f100_6 rfl ?_ | refine S_fa T.f100_6 rfl ?_
  refine S_st T.sz51 rfl rfl rfl rfl (by simp (disch := omega) only [hP.ok]) ?_
  generalize hh : putH _ _ _ = h7
  replace hP : Par h7 X a cap { p with arena := [], state := 0, start := 0, minus := false, val := 0, pos := 0, neg := 0 } := by rw [← hh]; exact hP.put 6 _ rfl rfl (⟨hP.bd.1, hP.bd.2.1, by simp⟩)
  replace hX : PEx X h h7 a a := by rw [← hh]; exact hX.putH _ _
  clear hh
  refine S_nc rfl ?_
  first | refine S_fa0 T.f100_7 rfl ?_ | refine S_fa T.f100_7 rfl ?_
  refine S_st T.sz4 rfl rfl rfl rfl (by simp (disch := omega) only [hP.ok]) ?_
  generalize hh : putH _ _ _ = h8
  replace hP : Par h8 X a cap { p with arena := [], state := 0, start := 0, minus := false, val := 0, pos := 0, neg := 0, del := false } := by rw [← hh]; exact hP.put 7 _ rfl rfl (hP.bd)
  replace hX : PEx X h h8 a a := by rw [← hh]; exact hX.putH _ _
  clear hh
  refine S_nc rfl ?_
  first | refine S_fa0 T.f100_8 rfl ?_ | refine S_fa T.f100_8 rfl ?_
  refine S_st T.sz4 rfl rfl rfl rfl (by simp (disch := omega) only [hP.ok]) ?_
  generalize hh : putH _ _ _ = h9
  replace hP : Par h9 X a cap { p with arena := [], state := 0, start := 0, minus := false, val := 0, pos := 0, neg := 0, del := false, opn := false } := by rw [← hh]; exact hP.put 8 _ rfl rfl (hP.bd)
  replace hX : PEx X h h9 a a := by rw [← hh]; exact hX.putH _ _
  clear hh
  refine S_nil (hK3 _ _ (V_keep [0] (by simp only [proj, lk, reduceIte, Nat.reduceEqDiff]; rfl) ?_)); clear hK3
  refine V_reg T.mix (by kernel_rfl) ?_
  refine S_mv rfl ?_
  refine S_mv rfl ?_
  refine S_nc rfl ?_
  first | refine S_fa0 T.f100_9 rfl ?_ | refine S_fa T.f100_9 rfl ?_
  refine S_st T.sz54 rfl rfl rfl rfl (by simp (disch := omega) only [hP.ok]) ?_
  generalize hh : putH _ _ _ = h10
  replace hP : Par h10 X a cap { p with arena := [], state := 0, start := 0, minus := false, val := 0, pos := 0, neg := 0, del := false, opn := false, err := 0 } := by rw [← hh]; exact hP.put 9 _ rfl rfl (hP.bd)
  replace hX : PEx X h h10 a a := by rw [← hh]; exact hX.putH _ _
  clear hh
  refine S_nc rfl ?_
  first | refine S_fa0 T.f100_10 rfl ?_ | refine S_fa T.f100_10 rfl ?_
  refine S_st T.sz3 rfl rfl rfl rfl (by simp (disch := omega) only [hP.ok]) ?_
  generalize hh : putH _ _ _ = h11
  replace hP : Par h11 X a cap { p with arena := [], state := 0, start := 0, minus := false, val := 0, pos := 0, neg := 0, del := false, opn := false, err := 0, loc := 0 } := by rw [← hh]; exact hP.put 10 _ rfl rfl (hP.bd)
  replace hX : PEx X h h11 a a := by rw [← hh]; exact hX.putH _ _
  clear hh
  refine S_nilk [] (by simp only [proj, lk, reduceIte, Nat.reduceEqDiff]; rfl) ?_
  -- end
  refine hR _ _ (ret0 rfl ?_)
  exact ⟨rfl, _, _, hP, hX⟩
set_option maxHeartbeats 400000 in
theorem new_spec (h : Heap) :
    FC Tryz.prog 20 (#[] : Array Value) h fun v h' => v = .pointer (some ⟨h.size, 0, none⟩) ∧ Par h' h.size none 0 p0 ∧ Ext (fun _ => False) h h' := by
  refine FC_of [] Tryz.func20 rfl Tryz.ntmps20 (by simp) rfl (fun R hR => ?_)
  refine V_sr T.mix (by kernel_rfl) (fun K1 hK1 => ?_)
  refine S_as rfl ?_
  refine S_nil (hK1 _ _ (V_keep [] (by simp only [proj, lk, reduceIte, Nat.reduceEqDiff]; rfl) ?_)); clear hK1
  refine V_sr T.mix (by kernel_rfl) (fun K2 hK2 => ?_)
  refine S_bld rfl (T.bld100) ?_
  refine S_boxA rfl ?_
  refine S_as rfl ?_
  refine S_nil (hK2 _ _ (V_keep [0] (by simp only [proj, lk, reduceIte, Nat.reduceEqDiff]; rfl) ?_)); clear hK2
  refine V_ret ?_
  refine hR _ _ (ret1 rfl rfl ?_)
  exact ⟨rfl, ⟨B.new _ _ _, IL.nil _, by simp [blkA], by simp [p0]⟩, Ext.push _ _ _⟩
set_option maxHeartbeats 400000 in
theorem parse_spec (h : Heap) (X : Nat) (a : Option Addr) (cap : Nat) (hP : Par h X a cap p0) (s : ByteArray) :
    FC Tryz.prog 55 (#[.pointer (some ⟨X, 0, none⟩), .string s] : Array Value) h fun v h' => ∃ fl a' cap', v = .agg #[.int .i64 (parseF s).1, .int .i64 (parseF s).2.1, .slice fl (parseF s).2.2.length (parseF s).2.2.length] ∧ IL h' fl (parseF s).2.2.length (parseF s).2.2 ∧ ((parseF s).2.2.length = 0 → fl = none) ∧ (∀ b, blkA fl = some b → h.size ≤ b ∧ blkA a' ≠ some b) ∧ Par h' X a' cap' p0 ∧ PEx X h h' a a' := by
  have hXl := hP.s.lt
  have hRX : h.size ≠ X := by omega
  have hnr : blkA a ≠ some h.size := fun e => by have := hP.ar.lt e; omega
  refine FC_of [(0, .pointer (some ⟨X, 0, none⟩)), (1, .string s)] Tryz.func55 rfl Tryz.ntmps55 (by simp) rfl (fun R hR => ?_)
  refine V_sr T.mix (by kernel_rfl) (fun K1 hK1 => ?_)
  refine S_allocA T.z115 ?_
  generalize hh : Array.push h _ = hA
  have hRc : B hA h.size #[.int .i64 0, .int .i64 0, .slice none 0 0] 115 := by rw [← hh]; exact B.new _ _ _
  have hEA : Ext (fun _ => False) h hA := by rw [← hh]; exact Ext.push _ _ _
  clear hh
  replace hP := hP.ext hEA (fun f => f) (fun _ _ f => f)
  have hX : PEx X h hA a a := (PEx.refl X h a).new hEA (fun _ _ f => f)
  have hRok : ∀ j, j < 3 → okPut hA ⟨h.size, j, none⟩ = true := fun j hj => hRc.ok (by simpa using hj)
  refine S_nil (hK1 _ _ (V_keep [0, 1, 4] (by simp only [proj, lk, reduceIte, Nat.reduceEqDiff]; rfl) ?_)); clear hK1
  refine V_seq (fun K2 hK2 => ?_)
  refine V_sr T.mix (by kernel_rfl) (fun K3 hK3 => ?_)
  refine S_mv rfl ?_
  refine S_lens T.kd9 rfl ?_
  refine S_bin rfl rfl rfl ?_
  refine S_nil (hK3 _ _ (V_keep [0, 1, 4, 9] (by simp only [proj, lk, reduceIte, Nat.reduceEqDiff]; rfl) ?_)); clear hK3
  refine V_condp rfl (fun c39 => ?_) (fun c39 => ?_)
  · skip
    refine V_sr T.mix (by kernel_rfl) (fun K4 hK4 => ?_)
    refine S_bld rfl (T.bld115_0 _) ?_
    refine S_stl T.sz115 rfl rfl rfl rfl (fun j hj => by simp (disch := omega) only [hRok]) ?_
    generalize hh : putsH _ _ _ _ = h2
    have hRc9 : B h2 h.size #[.int .i64 1, .int .i64 0, .slice none 0 0] 115 := by rw [← hh]; exact B.puts_all hRc (cs' := #[.int .i64 1, .int .i64 0, .slice none 0 0]) rfl
    have hE9 : Ext (fun k => k = h.size) hA h2 := by rw [← hh]; exact Ext.puts (S := fun k => k = h.size) rfl _ _ _
    clear hh
    replace hRc := hRc9
    refine S_nil (hK4 _ _ (V_keep [4] (by simp only [proj, lk, reduceIte, Nat.reduceEqDiff]; rfl) ?_)); clear hK4
    refine V_ret ?_
    refine hR _ _ (retc1 rfl rfl T.ag115 hRc (by rfl) ?_)
    have hpf : parseF s = (1, 0, []) := by unfold parseF; rw [if_pos (by omega)]
    refine ⟨none, a, cap, by rw [hpf]; rfl, by rw [hpf]; exact IL.nil _, fun _ => rfl, fun b hb => by simp [blkA] at hb, hP.ext hE9 (fun e => by omega) (fun b hb e => hnr (e ▸ hb)), hX.new hE9 (fun k hk e => by omega)⟩
  · skip
    refine V_skipk [0, 1, 4] (by simp only [proj, lk, reduceIte, Nat.reduceEqDiff]; rfl) ?_
    refine hK2 _ _ ?_; clear hK2
    refine V_sr T.mix (by kernel_rfl) (fun K5 hK5 => ?_)
    refine S_mv rfl ?_
    refine S_call T.hb84 rfl ?_
    refine FC.mono (rest_spec hA X _ _ _ hP) ?_
    rintro v h1 ⟨rfl, a1, cap1, hP1, hX1⟩
    obtain ⟨hRc1, hnr1⟩ := keepB hRc hX1 hRX hnr
    have hX1b := hX.trans hX1
    refine S_nil (hK5 _ _ (V_keep [0, 1, 4] (by simp only [proj, lk, reduceIte, Nat.reduceEqDiff]; rfl) ?_)); clear hK5
    refine V_seq (fun K6 hK6 => ?_)
    refine V_sr T.mix (by kernel_rfl) (fun K7 hK7 => ?_)
    refine S_as rfl ?_
    refine S_nil (hK7 _ _ (V_keep [0, 1, 4, 5] (by simp only [proj, lk, reduceIte, Nat.reduceEqDiff]; rfl) ?_)); clear hK7
    refine V_block ?_
    refine V_loop (fun m l h' => ∃ (i : Nat) (hk : Heap) (ak : Option Addr) (ck : Nat), (i ≤ s.size) ∧ (Par hk X ak ck (run (bx s) i 0 p0)) ∧ (PEx X h hk a ak) ∧ (B hk h.size #[.int .i64 0, .int .i64 0, .slice none 0 0] 115) ∧ (blkA ak ≠ some h.size) ∧ m = s.size - i ∧ l = [(0, .pointer (some ⟨X, 0, none⟩)), (1, .string s), (4, .pointer (some ⟨h.size, 0, none⟩)), (5, .int .i64 i)] ∧ hk = h') _ ⟨0, h1, a1, cap1, by omega, hP1, hX1b, hRc1, hnr1, rfl, rfl, rfl⟩ ?_
    rintro m l h' ⟨i, hk, ak, ck, hi, hP, hX, hRc, hnr, rfl, rfl, rfl⟩ K8 hK8
    refine V_seq (fun K9 hK9 => ?_)
    refine V_sr T.mix (by kernel_rfl) (fun K10 hK10 => ?_)
    refine S_cut (K' := fun l h' => ∃ b : Bool, (b = true ↔ (i < s.size ∧ (run (bx s) i 0 p0).err = 0)) ∧ l = [(0, .pointer (some ⟨X, 0, none⟩)), (1, .string s), (4, .pointer (some ⟨h.size, 0, none⟩)), (5, .int .i64 i), (23, .bool b)] ∧ hk = h') ?_ ?_
    · skip
      refine S_mv rfl ?_
      refine S_mv rfl ?_
      refine S_lens T.kd9 rfl ?_
      refine S_bin rfl rfl rfl ?_
      refine S_mv rfl ?_
      refine S_dec (fun g43 => ?_) (fun g43 => ?_)
      · skip
        refine S_gt rfl ?_
        refine S_mv rfl ?_
        refine S_gt rfl ?_
        refine S_nc rfl ?_
        refine S_gt rfl ?_
        first | refine S_fa0 T.f100_9 rfl ?_ | refine S_fa T.f100_9 rfl ?_
        refine S_gt rfl ?_
        refine S_ldK T.ag54 rfl (fun K' hK' => ?_)
        simp (disch := omega) only [hP.c0, hP.c1, hP.c2, hP.c3, hP.c4, hP.c5, hP.c6, hP.c7, hP.c8, hP.c9, hP.c10, oP_some, Nat.add_zero]
        refine hK' _ ?_; clear hK' K'
        refine S_gt rfl ?_
        refine S_bin rfl rfl rfl ?_
        refine S_pt rfl rfl ?_
        exact S_nilk [0, 1, 4, 5, 23] (by simp only [proj, lk, reduceIte, Nat.reduceEqDiff]; rfl) ⟨_, (by first | (simp [*]; done) | (simp; omega)), rfl, rfl⟩
      · skip
        refine S_gf rfl ?_
        refine S_gf rfl ?_
        refine S_gf rfl ?_
        refine S_gf rfl ?_
        refine S_gf rfl ?_
        refine S_pf rfl rfl ?_
        exact S_nilk [0, 1, 4, 5, 23] (by simp only [proj, lk, reduceIte, Nat.reduceEqDiff]; rfl) ⟨_, (by first | (simp [*]; done) | (simp; omega)), rfl, rfl⟩
    rintro l h' ⟨b, hb43, rfl, rfl⟩
    refine hK10 _ _ ?_; clear hK10
    refine V_condb rfl (fun c43 => ?_) (fun c43 => ?_)
    · replace c43 := hb43.1 c43
      refine V_skipk [0, 1, 4, 5] (by simp only [proj, lk, reduceIte, Nat.reduceEqDiff]; rfl) ?_
      refine hK9 _ _ ?_; clear hK9
      refine V_seq (fun K12 hK12 => ?_)
      refine V_block ?_
      refine V_reg T.mix (by kernel_rfl) ?_
      refine S_mv rfl ?_
      refine S_mv rfl ?_
      refine S_mv rfl ?_
      refine S_si T.kd9 rfl rfl (by omega) (by omega) ?_
      refine S_mv rfl ?_
      refine S_call T.hb85 rfl ?_
      have hlen := run_len (f := bx s) i 0 p0
      rw [show p0.arena.length = 0 from rfl] at hlen
      refine FC.mono (feed_spec hk X _ _ _ hP (by omega) (run_val _ _ _ (by simp [p0])) (bAt s (i : Int).toNat) i (by first | omega | exact bAt_lt _ _)) ?_
      rintro v h2 ⟨rfl, a2, cap2, hP2, hX2⟩
      obtain ⟨hRc2, hnr2⟩ := keepB hRc hX2 hRX hnr
      have hX3 := hX.trans hX2
      refine S_nilk [0, 1, 4, 5] (by simp only [proj, lk, reduceIte, Nat.reduceEqDiff]; rfl) ?_
      refine hK12 _ _ ?_; clear hK12
      refine V_reg T.mix (by kernel_rfl) ?_
      refine S_mv rfl ?_
      first | refine S_add rfl rfl (by omega) (by omega) ?_ | refine S_bin rfl rfl rfl ?_
      refine S_as rfl ?_
      refine S_nilk [0, 1, 4, 5] (by simp only [proj, lk, reduceIte, Nat.reduceEqDiff]; rfl) ?_
      exact hK8 _ _ ⟨_, by omega, i + 1, h2, a2, cap2, by omega, hP2.eq (by rw [run_last, if_pos c43.2]; simp [bx, c43.1]), hX3, hRc2, hnr2, rfl, rfl, rfl⟩
    · replace c43 : ¬ _ := fun hp => Bool.false_ne_true (c43.symm.trans (hb43.2 hp))
      refine V_exitk [0, 1, 4] rfl (by simp only [proj, lk, reduceIte, Nat.reduceEqDiff]; rfl) ?_
      refine hK6 _ _ ?_; clear hK6
      refine V_seqJ (fun l h' => ∃ (h5 : Heap) (a5 : Option Addr) (c5 : Nat), (Par h5 X a5 c5 (run (bx s) (s.size + 1) 0 p0)) ∧ (PEx X h h5 a a5) ∧ (B h5 h.size #[.int .i64 0, .int .i64 0, .slice none 0 0] 115) ∧ (blkA a5 ≠ some h.size) ∧ l = [(0, .pointer (some ⟨X, 0, none⟩)), (1, .string s), (4, .pointer (some ⟨h.size, 0, none⟩))] ∧ h5 = h') ?_ ?_
      · skip
        refine V_sr T.mix (by kernel_rfl) (fun K14 hK14 => ?_)
        refine S_mv rfl ?_
        refine S_nc rfl ?_
        first | refine S_fa0 T.f100_9 rfl ?_ | refine S_fa T.f100_9 rfl ?_
        refine S_ldK T.ag54 rfl (fun K' hK' => ?_)
        simp (disch := omega) only [hP.c0, hP.c1, hP.c2, hP.c3, hP.c4, hP.c5, hP.c6, hP.c7, hP.c8, hP.c9, hP.c10, oP_some, Nat.add_zero]
        refine hK' _ ?_; clear hK' K'
        refine S_bin rfl rfl rfl ?_
        refine S_nil (hK14 _ _ (V_keep [0, 1, 4, 36] (by simp only [proj, lk, reduceIte, Nat.reduceEqDiff]; rfl) ?_)); clear hK14
        refine V_condp rfl (fun c46 => ?_) (fun c46 => ?_)
        · skip
          have hii : i = s.size := by by_cases hlt : i < s.size; (exact absurd ⟨hlt, by omega⟩ c43); (omega)
          subst hii
          refine V_reg T.mix (by kernel_rfl) ?_
          refine S_mv rfl ?_
          refine S_mv rfl ?_
          refine S_lens T.kd9 rfl ?_
          refine S_call T.hb85 rfl ?_
          have hlen := run_len (f := bx s) s.size 0 p0
          rw [show p0.arena.length = 0 from rfl] at hlen
          refine FC.mono (feed_spec hk X _ _ _ hP (by omega) (run_val _ _ _ (by simp [p0])) 32 s.size (by first | omega | exact bAt_lt _ _)) ?_
          rintro v h2 ⟨rfl, a2, cap2, hP2, hX2⟩
          obtain ⟨hRc2, hnr2⟩ := keepB hRc hX2 hRX hnr
          have hX3 := hX.trans hX2
          refine S_nilk [0, 1, 4] (by simp only [proj, lk, reduceIte, Nat.reduceEqDiff]; rfl) ?_
          exact ⟨h2, a2, cap2, hP2.eq (by rw [run_last, if_pos (by omega)]; simp [bx]), hX3, hRc2, hnr2, rfl, rfl⟩
        · skip
          refine V_skipk [0, 1, 4] (by simp only [proj, lk, reduceIte, Nat.reduceEqDiff]; rfl) ?_
          exact ⟨hk, ak, ck, hP.eq (run_stuck (by omega) (by omega)).symm, hX, hRc, hnr, rfl, rfl⟩
      rintro l h' ⟨h5, a5, c5, hP, hX, hRc, hnr, rfl, rfl⟩
      refine V_seqJ (fun l h' => ∃ (h6 : Heap) (a6 : Option Addr) (c6 : Nat) (q : PS), (Par h6 X a6 c6 q) ∧ (PEx X h h6 a a6) ∧ (B h6 h.size #[.int .i64 0, .int .i64 0, .slice none 0 0] 115) ∧ (blkA a6 ≠ some h.size) ∧ (parseF s = if q.err ≠ 0 then (q.err, q.loc, []) else (0, 0, q.arena)) ∧ (q.err = 0 → q.loc = 0) ∧ (q.arena.length ≤ 1000000000) ∧ l = [(0, .pointer (some ⟨X, 0, none⟩)), (4, .pointer (some ⟨h.size, 0, none⟩))] ∧ h6 = h') ?_ ?_
      · skip
        refine V_sr T.mix (by kernel_rfl) (fun K16 hK16 => ?_)
        refine S_cut (K' := fun l h' => ∃ b : Bool, (b = true ↔ ((run (bx s) (s.size + 1) 0 p0).err = 0 ∧ (run (bx s) (s.size + 1) 0 p0).opn = true)) ∧ l = [(0, .pointer (some ⟨X, 0, none⟩)), (1, .string s), (4, .pointer (some ⟨h.size, 0, none⟩)), (51, .bool b)] ∧ h5 = h') ?_ ?_
        · skip
          refine S_mv rfl ?_
          refine S_nc rfl ?_
          first | refine S_fa0 T.f100_9 rfl ?_ | refine S_fa T.f100_9 rfl ?_
          refine S_ldK T.ag54 rfl (fun K' hK' => ?_)
          simp (disch := omega) only [hP.c0, hP.c1, hP.c2, hP.c3, hP.c4, hP.c5, hP.c6, hP.c7, hP.c8, hP.c9, hP.c10, oP_some, Nat.add_zero]
          refine hK' _ ?_; clear hK' K'
          refine S_bin rfl rfl rfl ?_
          refine S_mv rfl ?_
          refine S_dec (fun g49 => ?_) (fun g49 => ?_)
          · skip
            refine S_gt rfl ?_
            refine S_mv rfl ?_
            refine S_gt rfl ?_
            refine S_nc rfl ?_
            refine S_gt rfl ?_
            first | refine S_fa0 T.f100_8 rfl ?_ | refine S_fa T.f100_8 rfl ?_
            refine S_gt rfl ?_
            refine S_ldK T.ag4 rfl (fun K' hK' => ?_)
            simp (disch := omega) only [hP.c0, hP.c1, hP.c2, hP.c3, hP.c4, hP.c5, hP.c6, hP.c7, hP.c8, hP.c9, hP.c10, oP_some, Nat.add_zero]
            refine hK' _ ?_; clear hK' K'
            refine S_pt rfl rfl ?_
            exact S_nilk [0, 1, 4, 51] (by simp only [proj, lk, reduceIte, Nat.reduceEqDiff]; rfl) ⟨_, (by first | (simp [*]; done) | (simp; omega)), rfl, rfl⟩
          · skip
            refine S_gf rfl ?_
            refine S_gf rfl ?_
            refine S_gf rfl ?_
            refine S_gf rfl ?_
            refine S_pf rfl rfl ?_
            exact S_nilk [0, 1, 4, 51] (by simp only [proj, lk, reduceIte, Nat.reduceEqDiff]; rfl) ⟨_, (by first | (simp [*]; done) | (simp; omega)), rfl, rfl⟩
        rintro l h' ⟨b, hb49, rfl, rfl⟩
        refine hK16 _ _ ?_; clear hK16
        refine V_condb rfl (fun c49 => ?_) (fun c49 => ?_)
        · replace c49 := hb49.1 c49
          refine V_reg T.mix (by kernel_rfl) ?_
          refine S_mv rfl ?_
          refine S_mv rfl ?_
          refine S_lens T.kd9 rfl ?_
          refine S_call T.hb86 rfl ?_
          refine FC.mono (fail_spec h5 X _ _ _ hP 5 s.size) ?_
          rintro v h2 ⟨rfl, a2, cap2, hP2, hX2⟩
          obtain ⟨hRc2, hnr2⟩ := keepB hRc hX2 hRX hnr
          have hX3 := hX.trans hX2
          refine S_nilk [0, 4] (by simp only [proj, lk, reduceIte, Nat.reduceEqDiff]; rfl) ?_
          exact ⟨h2, a2, cap2, _, hP2, hX3, hRc2, hnr2, by rw [(parse_fin (by omega)).1 c49]; simp [failF], by simp [failF], by have hlen := run_len (f := bx s) (s.size + 1) 0 p0; rw [show p0.arena.length = 0 from rfl] at hlen; simp only [failF]; omega, rfl, rfl⟩
        · replace c49 : ¬ _ := fun hp => Bool.false_ne_true (c49.symm.trans (hb49.2 hp))
          refine V_skipk [0, 4] (by simp only [proj, lk, reduceIte, Nat.reduceEqDiff]; rfl) ?_
          exact ⟨h5, a5, c5, _, hP, hX, hRc, hnr, (parse_fin (by omega)).2 c49, fun e => run_loc0 _ _ _ rfl e, by have hlen := run_len (f := bx s) (s.size + 1) 0 p0; rw [show p0.arena.length = 0 from rfl] at hlen; omega, rfl, rfl⟩
      rintro l h' ⟨h6, a6, c6, q, hP, hX, hRc, hnr, hq, hq0, hql, rfl, rfl⟩
      refine V_sr T.mix (by kernel_rfl) (fun K18 hK18 => ?_)
      refine S_mv rfl ?_
      refine S_nc rfl ?_
      first | refine S_fa0 T.f100_9 rfl ?_ | refine S_fa T.f100_9 rfl ?_
      refine S_ldK T.ag54 rfl (fun K' hK' => ?_)
      simp (disch := omega) only [hP.c0, hP.c1, hP.c2, hP.c3, hP.c4, hP.c5, hP.c6, hP.c7, hP.c8, hP.c9, hP.c10, oP_some, Nat.add_zero]
      refine hK' _ ?_; clear hK' K'
      refine S_mv rfl ?_
      refine S_nc rfl ?_
      first | refine S_fa0 T.f100_10 rfl ?_ | refine S_fa T.f100_10 rfl ?_
      refine S_ldK T.ag3 rfl (fun K' hK' => ?_)
      simp (disch := omega) only [hP.c0, hP.c1, hP.c2, hP.c3, hP.c4, hP.c5, hP.c6, hP.c7, hP.c8, hP.c9, hP.c10, oP_some, Nat.add_zero]
      refine hK' _ ?_; clear hK' K'
      refine S_bld rfl (T.bld115_0_1 _ _) ?_
      refine S_allocA T.z115 ?_
      generalize hh : Array.push h6 _ = h7
      have hL : B h7 h6.size #[.int .i64 0, .int .i64 0, .slice none 0 0] 115 := by rw [← hh]; exact B.new _ _ _
      have hEL : Ext (fun _ => False) h6 h7 := by rw [← hh]; exact Ext.push _ _ _
      clear hh
      have hnl : blkA a6 ≠ some h6.size := fun e => by have := hP.ar.lt e; omega
      have hr6 := hRc.lt
      have hXs := hX.1.1
      replace hP := hP.ext hEL (fun f => f) (fun _ _ f => f)
      replace hX := hX.new hEL (fun _ _ f => f)
      replace hRc := hRc.ext hEL (fun f => f)
      have hLok : ∀ j, j < 3 → okPut h7 ⟨h6.size, j, none⟩ = true := fun j hj => hL.ok (by simpa using hj)
      refine S_stl T.sz115 rfl rfl rfl rfl (fun j hj => by simp (disch := omega) only [hLok]) ?_
      generalize hh : putsH _ _ _ _ = h8
      have hL9 : B h8 h6.size #[.int .i64 q.err, .int .i64 q.loc, .slice none 0 0] 115 := by rw [← hh]; exact B.puts_all hL (cs' := #[.int .i64 q.err, .int .i64 q.loc, .slice none 0 0]) rfl
      have hE9 : Ext (fun k => k = h6.size) h7 h8 := by rw [← hh]; exact Ext.puts (S := fun k => k = h6.size) rfl _ _ _
      clear hh
      have hn6 : ∀ k, k < h6.size → ¬ k = h6.size := fun k hk e => by omega
      replace hP := hP.ext hE9 (fun e => by omega) (fun b hb e => hnl (e ▸ hb))
      replace hX := hX.new hE9 (fun k hk e => by omega)
      replace hRc := hRc.ext hE9 (fun e => by omega)
      replace hL := hL9
      refine S_nil (hK18 _ _ (V_keep [0, 4, 6] (by simp only [proj, lk, reduceIte, Nat.reduceEqDiff]; rfl) ?_)); clear hK18
      refine V_seqJ (fun l h' => ∃ (hm : Heap) (fl : Option Addr), (Par hm X a6 c6 q) ∧ (PEx X h hm a a6) ∧ (B hm h.size #[.int .i64 0, .int .i64 0, .slice none 0 0] 115) ∧ (blkA a6 ≠ some h.size) ∧ (B hm h6.size #[.int .i64 (parseF s).1, .int .i64 (parseF s).2.1, .slice fl (parseF s).2.2.length (parseF s).2.2.length] 115) ∧ (IL hm fl (parseF s).2.2.length (parseF s).2.2) ∧ ((parseF s).2.2.length = 0 → fl = none) ∧ (∀ b, blkA fl = some b → h6.size < b ∧ blkA a6 ≠ some b) ∧ l = [(0, .pointer (some ⟨X, 0, none⟩)), (4, .pointer (some ⟨h.size, 0, none⟩)), (6, .pointer (some ⟨h6.size, 0, none⟩))] ∧ hm = h') ?_ ?_
      · skip
        refine V_sr T.mix (by kernel_rfl) (fun K20 hK20 => ?_)
        refine S_mv rfl ?_
        refine S_nc rfl ?_
        first | refine S_fa0 T.f100_9 rfl ?_ | refine S_fa T.f100_9 rfl ?_
        refine S_ldK T.ag54 rfl (fun K' hK' => ?_)
        simp (disch := omega) only [hP.c0, hP.c1, hP.c2, hP.c3, hP.c4, hP.c5, hP.c6, hP.c7, hP.c8, hP.c9, hP.c10, oP_some, Nat.add_zero]
        refine hK' _ ?_; clear hK' K'
        refine S_bin rfl rfl rfl ?_
        refine S_nil (hK20 _ _ (V_keep [0, 4, 6, 69] (by simp only [proj, lk, reduceIte, Nat.reduceEqDiff]; rfl) ?_)); clear hK20
        refine V_condp rfl (fun c53 => ?_) (fun c53 => ?_)
        · skip
          refine V_reg T.mix (by kernel_rfl) ?_
          refine S_mv rfl ?_
          refine S_nc rfl ?_
          first | refine S_fa0 T.f100_0 rfl ?_ | refine S_fa T.f100_0 rfl ?_
          refine S_ldK T.ag49 rfl (fun K' hK' => ?_)
          simp (disch := omega) only [hP.c0, hP.c1, hP.c2, hP.c3, hP.c4, hP.c5, hP.c6, hP.c7, hP.c8, hP.c9, hP.c10, oP_some, Nat.add_zero]
          refine hK' _ ?_; clear hK' K'
          refine S_call T.hb87 rfl ?_
          have h8s := hL.lt
          refine FC.mono (copyints_spec h8 a6 c6 q.arena hP.ar (by omega)) ?_
          rintro v h9 ⟨fl, rfl, hIL, hE8, hfn, hfb0⟩
          have hfb : ∀ b, blkA fl = some b → h6.size < b ∧ blkA a6 ≠ some b := fun b hb => ⟨by have := hfb0 b hb; omega, fun e => by have := hP.ar.lt e; have := hfb0 b hb; omega⟩
          replace hP := hP.ext hE8 (fun f => f) (fun _ _ f => f)
          replace hX := hX.new hE8 (fun _ _ f => f)
          replace hRc := hRc.ext hE8 (fun f => f)
          replace hL := hL.ext hE8 (fun f => f)
          have hLok2 : okPut h9 ⟨h6.size, 2, none⟩ = true := hL.ok (by simp)
          first | refine S_fa0 T.f115_2 rfl ?_ | refine S_fa T.f115_2 rfl ?_
          refine S_st T.sz49 rfl rfl rfl rfl (by simp (disch := omega) only [hLok2]) ?_
          generalize hh : putH _ _ _ = h10
          have hL10 : B h10 h6.size #[.int .i64 q.err, .int .i64 q.loc, .slice fl q.arena.length q.arena.length] 115 := by rw [← hh]; exact hL.put 2 _
          have hE10 : Ext (fun k => k = h6.size) h9 h10 := by rw [← hh]; exact Ext.put _ _ rfl
          clear hh
          replace hP := hP.ext hE10 (fun e => by omega) (fun b hb e => hnl (e ▸ hb))
          replace hX := hX.new hE10 (fun k hk e => by omega)
          replace hRc := hRc.ext hE10 (fun e => by omega)
          replace hIL := hIL.ext hE10 (fun b hb e => by have := hfb b hb; omega)
          replace hL := hL10
          refine S_nilk [0, 4, 6] (by simp only [proj, lk, reduceIte, Nat.reduceEqDiff]; rfl) ?_
          exact ⟨h10, fl, hP, hX, hRc, hnr, hL.cong (by rw [hq, if_neg (by omega)]; simp only []; rw [hq0 (by omega), show q.err = 0 by omega]), by rw [hq, if_neg (by omega)]; exact hIL, by rw [hq, if_neg (by omega)]; exact hfn, hfb, rfl, rfl⟩
        · skip
          refine V_skipk [0, 4, 6] (by simp only [proj, lk, reduceIte, Nat.reduceEqDiff]; rfl) ?_
          exact ⟨h8, none, hP, hX, hRc, hnr, hL.cong (by rw [hq, if_pos (by omega)]; rfl), by rw [hq, if_pos (by omega)]; exact IL.nil _, fun _ => rfl, fun b hb => by simp [blkA] at hb, rfl, rfl⟩
      rintro l h' ⟨hm, fl, hP, hX, hRc, hnr, hL, hIL, hfn, hfb, rfl, rfl⟩
      refine V_sr T.mix (by kernel_rfl) (fun K21 hK21 => ?_)
      refine S_mv rfl ?_
      refine S_call T.hb84 rfl ?_
      refine FC.mono (rest_spec hm X _ _ _ hP) ?_
      rintro v h11 ⟨rfl, a2, cap2, hP2, hX2⟩
      obtain ⟨hRc2, hnr2⟩ := keepB hRc hX2 hRX hnr
      obtain ⟨hL2, hnl2⟩ := keepB hL hX2 (by omega) hnl
      have hX3 := hX.trans hX2
      have hIL2 := hIL.ext hX2.1 (fun b hb e => by have := hfb b hb; rcases e with e | e; (omega); (exact this.2 e))
      refine S_nil (hK21 _ _ (V_keep [4, 6] (by simp only [proj, lk, reduceIte, Nat.reduceEqDiff]; rfl) ?_)); clear hK21
      refine V_sr T.mix (by kernel_rfl) (fun K22 hK22 => ?_)
      refine S_ldn T.ag115 rfl (hL2.all rfl) ?_
      have hRok : ∀ j, j < 3 → okPut h11 ⟨h.size, j, none⟩ = true := fun j hj => hRc2.ok (by simpa using hj)
      refine S_stl T.sz115 rfl rfl rfl rfl (fun j hj => by simp (disch := omega) only [hRok]) ?_
      generalize hh : putsH _ _ _ _ = h12
      have hRc29 : B h12 h.size #[.int .i64 (parseF s).1, .int .i64 (parseF s).2.1, .slice fl (parseF s).2.2.length (parseF s).2.2.length] 115 := by rw [← hh]; exact B.puts_all hRc2 (cs' := #[.int .i64 (parseF s).1, .int .i64 (parseF s).2.1, .slice fl (parseF s).2.2.length (parseF s).2.2.length]) rfl
      have hE9 : Ext (fun k => k = h.size) h11 h12 := by rw [← hh]; exact Ext.puts (S := fun k => k = h.size) rfl _ _ _
      clear hh
      have hRc := hRc29
      refine S_nil (hK22 _ _ (V_keep [4] (by simp only [proj, lk, reduceIte, Nat.reduceEqDiff]; rfl) ?_)); clear hK22
      refine V_ret ?_
      refine hR _ _ (retc1 rfl rfl T.ag115 hRc (by rfl) ?_)
      refine ⟨fl, a2, cap2, rfl, hIL2.ext hE9 (fun b hb e => by have := hfb b hb; omega), hfn, fun b hb => ⟨by have := hfb b hb; omega, fun e => ?_⟩, hP2.ext hE9 (fun e => by omega) (fun b hb e => hnr2 (e ▸ hb)), hX3.new hE9 (fun k hk e => by omega)⟩
      have hfb1 := hfb b hb
      rcases hX2.2 b e with e2 | e2
      · exact hfb1.2 e2
      · have := hIL.lt hb; omega
end Go.Proofs.Qxb6500401aGreat.ChkW
