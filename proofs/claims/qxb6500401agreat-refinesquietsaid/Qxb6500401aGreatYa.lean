import Derived.Test.Qxb6500401aGreatXh
import Derived.Test.Qxb6500401aGreatLx
set_option linter.unusedVariables false
set_option linter.unusedSimpArgs false
namespace Go.Proofs.Qxb6500401aGreat
open Go.Eng Go.Trl Go.Chk Go.Wat

structure LS where
  seen : Nat
  pos : Nat
  neg : Nat
  op : Int
def LS.z : LS := ⟨0, 0, 0, 0⟩
structure LS.ok (st : LS) : Prop where
  s : st.seen < 8192
  p : st.pos < 8192
  n : st.neg < 8192
abbrev LB (h : Heap) (K C X : Nat) (st : LS) (lv : Int) : Prop := B h K #[.pointer (some ⟨X, 0, none⟩), .pointer (some ⟨C, 0, none⟩), .int .u16 (st.seen : Int), .int .u16 (st.pos : Int), .int .u16 (st.neg : Int), .int .i64 st.op, .int .i64 lv] 107
theorem lq {h : Heap} {K C X : Nat} {st : LS} {lv : Int} (hB : LB h K C X st lv) : cellH h ⟨K, 0, none⟩ = some (.pointer (some ⟨X, 0, none⟩)) ∧ cellH h ⟨K, 1, none⟩ = some (.pointer (some ⟨C, 0, none⟩)) ∧ cellH h ⟨K, 2, none⟩ = some (.int .u16 (st.seen : Int)) ∧ cellH h ⟨K, 3, none⟩ = some (.int .u16 (st.pos : Int)) ∧ cellH h ⟨K, 4, none⟩ = some (.int .u16 (st.neg : Int)) ∧ cellH h ⟨K, 5, none⟩ = some (.int .i64 st.op) ∧ cellH h ⟨K, 6, none⟩ = some (.int .i64 lv) ∧ ∀ j, j < 7 → okPut h ⟨K, j, none⟩ = true :=
  ⟨hB.cell 0, hB.cell 1, hB.cell 2, hB.cell 3, hB.cell 4, hB.cell 5, hB.cell 6, fun j hj => hB.ok (by simpa using hj)⟩
def joinF (st : LS) (x : Int) : LS := if 0 < x then { st with pos := st.pos ||| 2 ^ x.natAbs } else { st with neg := st.neg ||| 2 ^ x.natAbs }
def holdsF (st : LS) (x : Int) : Bool := if 0 < x then st.pos.testBit x.natAbs else st.neg.testBit x.natAbs
def markF (s : TS) (lv : Int) (st : LS) (x : Int) : LS × Bool :=
  if st.seen.testBit x.natAbs = true then (st, true)
  else if levV s.L (x.natAbs : Int) < 0 then (st, false)
  else if levV s.L (x.natAbs : Int) = lv then ({ st with seen := st.seen ||| 2 ^ x.natAbs, op := st.op + 1 }, true)
  else if 0 < levV s.L (x.natAbs : Int) then (joinF { st with seen := st.seen ||| 2 ^ x.natAbs } x, true)
  else ({ st with seen := st.seen ||| 2 ^ x.natAbs }, true)
def markA (s : TS) (lv : Int) : LS → List Int → LS × Bool
  | st, [] => (st, true)
  | st, x :: r => if (markF s lv st x).2 = true then markA s lv (markF s lv st x).1 r else ((markF s lv st x).1, false)
def climbF (s : TS) (cl : Nat → Option (List Int)) (lv : Int) : Nat → LS → LS × Int
  | 0, st => (st, 0)
  | i + 1, st =>
    if st.seen.testBit (atL s.L (i : Int)).natAbs = true then
      if levV s.L ((atL s.L (i : Int)).natAbs : Int) = lv then
        if st.op - 1 = 0 then ({ st with op := st.op - 1 }, atL s.L (i : Int))
        else match liveC cl (reaV s.L ((atL s.L (i : Int)).natAbs : Int)) with
          | none => ({ st with op := st.op - 1 }, 0)
          | some rc => if (markA s lv { st with op := st.op - 1 } rc).2 = true then climbF s cl lv i (markA s lv { st with op := st.op - 1 } rc).1 else ((markA s lv { st with op := st.op - 1 } rc).1, 0)
      else climbF s cl lv i st
    else climbF s cl lv i st
def spareF (s : TS) (cl : Nat → Option (List Int)) (st : LS) (q : Int) : Bool := match liveC cl (reaV s.L (q.natAbs : Int)) with
  | none => false
  | some rc => rc.all fun x => decide (x = -q) || holdsF st x || decide (levV s.L (x.natAbs : Int) = 0)
def litOf (st : LS) (v : Nat) : Int := if st.neg.testBit v = true then -(v : Int) else if st.pos.testBit v = true then (v : Int) else 0
def shF (s : TS) (cl : Nat → Option (List Int)) (st : LS) (a : Int) : Nat → List Int × Int
  | 0 => ([], 0)
  | v + 1 => if litOf st (v + 1) = a then ((shF s cl st a v).1 ++ [litOf st (v + 1)], (shF s cl st a v).2) else if litOf st (v + 1) ≠ 0 ∧ spareF s cl st (litOf st (v + 1)) = false then ((shF s cl st a v).1 ++ [litOf st (v + 1)], if (shF s cl st a v).2 < levV s.L ((v + 1 : Nat) : Int) then levV s.L ((v + 1 : Nat) : Int) else (shF s cl st a v).2) else shF s cl st a v
structure Ans where
  err : Nat
  lits : List Int
  asr : Int
  back : Int
def clmb (s : TS) (cl : Nat → Option (List Int)) (c : List Int) : LS × Int := climbF s cl s.k s.L.length (markA s s.k LS.z c).1
def analyzeF (s : TS) (cl : Nat → Option (List Int)) (conf : Int) : Ans := match liveC cl conf with
  | none => ⟨13, [], 0, 0⟩
  | some c => if (c.all fun x => decide (valO s x = -1)) = true then
      if s.k = 0 then ⟨10, [], 0, 0⟩
      else if (markA s s.k LS.z c).1.op = 0 then ⟨10, [], 0, 0⟩
      else if (clmb s cl c).2 = 0 then ⟨15, [], 0, 0⟩
      else ⟨0, (shF s cl (joinF (clmb s cl c).1 (-(clmb s cl c).2)) (-(clmb s cl c).2) 12).1, -(clmb s cl c).2, (shF s cl (joinF (clmb s cl c).1 (-(clmb s cl c).2)) (-(clmb s cl c).2) 12).2⟩
    else ⟨15, [], 0, 0⟩
theorem joinF_ok {st : LS} (h : st.ok) {x : Int} (hx : x.natAbs ≤ 12) : (joinF st x).ok := by
  unfold joinF; split
  · exact ⟨h.s, or13 h.p (p13 (by omega)), h.n⟩
  · exact ⟨h.s, h.p, or13 h.n (p13 (by omega))⟩
theorem joinF_op (st : LS) (x : Int) : (joinF st x).op = st.op := by unfold joinF; split <;> rfl
theorem markF_ok {s : TS} {lv : Int} {st : LS} (h : st.ok) {x : Int} (hx : x.natAbs ≤ 12) : (markF s lv st x).1.ok ∧ st.op ≤ (markF s lv st x).1.op ∧ (markF s lv st x).1.op ≤ st.op + 1 := by
  have hs : st.seen ||| 2 ^ x.natAbs < 8192 := or13 h.s (p13 (by omega))
  unfold markF
  repeat' split
  · exact ⟨h, Int.le_refl _, by simp only []; omega⟩
  · exact ⟨h, Int.le_refl _, by simp only []; omega⟩
  · exact ⟨⟨hs, h.p, h.n⟩, by simp only []; omega, by simp only []; omega⟩
  · refine ⟨joinF_ok (st := { st with seen := st.seen ||| 2 ^ x.natAbs }) ⟨hs, h.p, h.n⟩ hx, ?_, ?_⟩ <;> simp only [joinF_op] <;> omega
  · exact ⟨⟨hs, h.p, h.n⟩, by simp only []; omega, by simp only []; omega⟩
theorem markA_ok {s : TS} {lv : Int} : ∀ {c : List Int} {st : LS}, st.ok → (∀ x ∈ c, x.natAbs ≤ 12) → (markA s lv st c).1.ok ∧ st.op ≤ (markA s lv st c).1.op ∧ (markA s lv st c).1.op ≤ st.op + c.length
  | [], st, h, _ => by unfold markA; exact ⟨h, Int.le_refl _, by simp⟩
  | x :: r, st, h, hc => by
    have h1 := markF_ok (s := s) (lv := lv) h (hc x (by simp))
    unfold markA; split
    · have h2 := markA_ok (s := s) (lv := lv) (c := r) h1.1 (fun y hy => hc y (by simp [hy]))
      exact ⟨h2.1, by omega, by simp; omega⟩
    · exact ⟨h1.1, by simp only []; omega, by simp; omega⟩
theorem markA_snoc {s : TS} {lv : Int} {c : List Int} {st : LS} {i : Nat} (hi : i < c.length) (h : (markA s lv st (c.take i)).2 = true) : markA s lv st (c.take (i + 1)) = markF s lv (markA s lv st (c.take i)).1 (c.getD i 0) := by
  have key : ∀ (l : List Int) (st : LS) (x : Int), (markA s lv st l).2 = true → markA s lv st (l ++ [x]) = markF s lv (markA s lv st l).1 x := by
    intro l; induction l with
    | nil =>
      intro st x _
      simp only [List.nil_append]
      unfold markA
      split
      · unfold markA; rename_i e; rw [← e]
      · rename_i e; simp only [Bool.not_eq_true] at e; rw [← e]
    | cons y r ih =>
      intro st x hr
      rw [List.cons_append]
      unfold markA at hr ⊢
      split at hr
      · rename_i e; rw [if_pos e, if_pos e]; exact ih _ x hr
      · cases hr
  rw [getD_snoc _ _ hi]; exact key _ _ _ h
theorem markA_stop {s : TS} {lv : Int} {c : List Int} {st : LS} {i : Nat} (hi : i ≤ c.length) (h : (markA s lv st (c.take i)).2 = false) : markA s lv st c = markA s lv st (c.take i) := by
  have key : ∀ (l r : List Int) (st : LS), (markA s lv st l).2 = false → markA s lv st (l ++ r) = markA s lv st l := by
    intro l; induction l with
    | nil => intro r st hr; unfold markA at hr; cases hr
    | cons y l ih =>
      intro r st hr
      rw [List.cons_append]
      unfold markA at hr ⊢
      split at hr
      · rename_i e; rw [if_pos e, if_pos e]; exact ih r _ hr
      · rename_i e; rw [if_neg e, if_neg e]
  have := key (c.take i) (c.drop i) st h
  rw [List.take_append_drop] at this; exact this
theorem and_ne {x n : Nat} : x &&& 2 ^ n ≠ 0 ↔ x.testBit n = true := by
  rw [ne_eq, and_zero]; simp

theorem and15 {v : Nat} (h : v ≤ 12) : v &&& 15 = v := by
  have := Nat.and_two_pow_sub_one_of_lt_two_pow (n := 4) (x := v) (by omega); simpa using this
theorem B.puts_all {h : Heap} {b : Nat} {cs cs' : Array Value} {t : TypeId} (hb : B h b cs t) (hs : cs'.size = cs.size) : B (putsH h b 0 cs'.toList) b cs' t := by
  obtain ⟨c2, e2, e3, e4, e5, e6, e7⟩ := putsH_eq cs'.toList 0 h cs hb (by simp; omega)
  refine e2.cong (Array.ext' (List.ext_getElem? fun i => ?_))
  by_cases hi : i < cs'.size
  · have := e4 i (by simpa using hi); simp at this ⊢; rw [this]
  · simp; rw [Array.getElem?_eq_none (by omega), Array.getElem?_eq_none (by omega)]

theorem bit_neq {x n : Nat} : decide (((x &&& 2 ^ n : Nat) : Int) ≠ 0) = x.testBit n := by
  cases e : x.testBit n with
  | true => exact decide_eq_true (by have := and_ne.2 e; omega)
  | false => exact decide_eq_false (by have := and_zero.2 e; omega)
set_option maxHeartbeats 400000 in
theorem lnew_spec (h : Heap) (X C : Nat) :
    FC Tryz.prog 23 (#[.pointer (some ⟨X, 0, none⟩), .pointer (some ⟨C, 0, none⟩)] : Array Value) h fun v h' => v = .pointer (some ⟨h.size, 0, none⟩) ∧ LB h' h.size C X LS.z 0 ∧ Ext (fun _ => False) h h' := by
  refine FC_of [(0, .pointer (some ⟨X, 0, none⟩)), (1, .pointer (some ⟨C, 0, none⟩))] Tryz.func23 rfl Tryz.ntmps23 (by simp) rfl (fun R hR => ?_)
  refine V_sr T.mix (by kernel_rfl) (fun K1 hK1 => ?_)
  refine S_as rfl ?_
  refine S_nil (hK1 _ _ (V_keep [0, 1] (by simp only [proj, lk, reduceIte, Nat.reduceEqDiff]; rfl) ?_)); clear hK1
  refine V_sr T.mix (by kernel_rfl) (fun K2 hK2 => ?_)
  refine S_mv rfl ?_
  refine S_mv rfl ?_
  refine S_bld rfl (T.bld107_0_1 _ _) ?_
  refine S_boxA rfl ?_
  refine S_as rfl ?_
  refine S_nil (hK2 _ _ (V_keep [4] (by simp only [proj, lk, reduceIte, Nat.reduceEqDiff]; rfl) ?_)); clear hK2
  refine V_ret ?_
  refine hR _ _ (ret1 rfl rfl ?_)
  exact ⟨rfl, B.new _ _ _, Ext.push _ _ _⟩
set_option maxHeartbeats 400000 in
theorem wipe_spec (h : Heap) (K C X : Nat) (st : LS) (lv : Int) (hB : LB h K C X st lv) :
    FC Tryz.prog 128 (#[.pointer (some ⟨K, 0, none⟩)] : Array Value) h fun v h' => v = .tuple #[] ∧ LB h' K C X LS.z 0 ∧ Ext (fun x => x = K) h h' := by
  try clear l0 l1 l2 l3 l4 l5 l6 hlok
  obtain ⟨l0, l1, l2, l3, l4, l5, l6, hlok⟩ := lq (hB)
  refine FC_of [(0, .pointer (some ⟨K, 0, none⟩))] Tryz.func128 rfl Tryz.ntmps128 (by simp) rfl (fun R hR => ?_)
  refine V_sr T.mix (by kernel_rfl) (fun K1 hK1 => ?_)
  refine S_mv rfl ?_
  refine S_nc rfl ?_
  first | refine S_fa0 T.f107_2 rfl ?_ | refine S_fa T.f107_2 rfl ?_
  refine S_st T.sz51 rfl rfl rfl rfl (by simp (disch := omega) only [hlok]) ?_
  generalize hh : putH _ _ _ = h1
  have hBh1 : LB h1 K C X { st with seen := 0 } (lv) := by rw [← hh]; exact (hB).put 2 _
  have hEh1 : Ext (fun x => x = K) h h1 := by rw [← hh]; exact Ext.put _ _ rfl
  clear hh
  try clear l0 l1 l2 l3 l4 l5 l6 hlok
  obtain ⟨l0, l1, l2, l3, l4, l5, l6, hlok⟩ := lq (hBh1)
  refine S_nil (hK1 _ _ (V_keep [0] (by simp only [proj, lk, reduceIte, Nat.reduceEqDiff]; rfl) ?_)); clear hK1
  refine V_sr T.mix (by kernel_rfl) (fun K2 hK2 => ?_)
  refine S_mv rfl ?_
  refine S_nc rfl ?_
  first | refine S_fa0 T.f107_3 rfl ?_ | refine S_fa T.f107_3 rfl ?_
  refine S_st T.sz51 rfl rfl rfl rfl (by simp (disch := omega) only [hlok]) ?_
  generalize hh : putH _ _ _ = h2
  have hBh2 : LB h2 K C X { st with seen := 0, pos := 0 } (lv) := by rw [← hh]; exact (hBh1).put 3 _
  have hEh2 : Ext (fun x => x = K) h1 h2 := by rw [← hh]; exact Ext.put _ _ rfl
  clear hh
  try clear l0 l1 l2 l3 l4 l5 l6 hlok
  obtain ⟨l0, l1, l2, l3, l4, l5, l6, hlok⟩ := lq (hBh2)
  refine S_nil (hK2 _ _ (V_keep [0] (by simp only [proj, lk, reduceIte, Nat.reduceEqDiff]; rfl) ?_)); clear hK2
  refine V_sr T.mix (by kernel_rfl) (fun K3 hK3 => ?_)
  refine S_mv rfl ?_
  refine S_nc rfl ?_
  first | refine S_fa0 T.f107_4 rfl ?_ | refine S_fa T.f107_4 rfl ?_
  refine S_st T.sz51 rfl rfl rfl rfl (by simp (disch := omega) only [hlok]) ?_
  generalize hh : putH _ _ _ = h3
  have hBh3 : LB h3 K C X { st with seen := 0, pos := 0, neg := 0 } (lv) := by rw [← hh]; exact (hBh2).put 4 _
  have hEh3 : Ext (fun x => x = K) h2 h3 := by rw [← hh]; exact Ext.put _ _ rfl
  clear hh
  try clear l0 l1 l2 l3 l4 l5 l6 hlok
  obtain ⟨l0, l1, l2, l3, l4, l5, l6, hlok⟩ := lq (hBh3)
  refine S_nil (hK3 _ _ (V_keep [0] (by simp only [proj, lk, reduceIte, Nat.reduceEqDiff]; rfl) ?_)); clear hK3
  refine V_sr T.mix (by kernel_rfl) (fun K4 hK4 => ?_)
  refine S_mv rfl ?_
  refine S_nc rfl ?_
  first | refine S_fa0 T.f107_5 rfl ?_ | refine S_fa T.f107_5 rfl ?_
  refine S_st T.sz3 rfl rfl rfl rfl (by simp (disch := omega) only [hlok]) ?_
  generalize hh : putH _ _ _ = h4
  have hBh4 : LB h4 K C X LS.z (lv) := by rw [← hh]; exact (hBh3).put 5 _
  have hEh4 : Ext (fun x => x = K) h3 h4 := by rw [← hh]; exact Ext.put _ _ rfl
  clear hh
  try clear l0 l1 l2 l3 l4 l5 l6 hlok
  obtain ⟨l0, l1, l2, l3, l4, l5, l6, hlok⟩ := lq (hBh4)
  refine S_nil (hK4 _ _ (V_keep [0] (by simp only [proj, lk, reduceIte, Nat.reduceEqDiff]; rfl) ?_)); clear hK4
  refine V_reg T.mix (by kernel_rfl) ?_
  refine S_mv rfl ?_
  refine S_nc rfl ?_
  first | refine S_fa0 T.f107_6 rfl ?_ | refine S_fa T.f107_6 rfl ?_
  refine S_st T.sz3 rfl rfl rfl rfl (by simp (disch := omega) only [hlok]) ?_
  generalize hh : putH _ _ _ = h5
  have hBh5 : LB h5 K C X LS.z (0) := by rw [← hh]; exact (hBh4).put 6 _
  have hEh5 : Ext (fun x => x = K) h4 h5 := by rw [← hh]; exact Ext.put _ _ rfl
  clear hh
  try clear l0 l1 l2 l3 l4 l5 l6 hlok
  obtain ⟨l0, l1, l2, l3, l4, l5, l6, hlok⟩ := lq (hBh5)
  refine S_nilk [] (by simp only [proj, lk, reduceIte, Nat.reduceEqDiff]; rfl) ?_
  -- end
  refine hR _ _ (ret0 rfl ?_)
  exact ⟨rfl, hBh5, (((hEh1.trans hEh2).trans hEh3).trans hEh4).trans hEh5⟩
set_option maxHeartbeats 400000 in
theorem refuse_spec (h : Heap) (K C X : Nat) (st : LS) (lv : Int) (hB : LB h K C X st lv) (e : Int) :
    FC Tryz.prog 123 (#[.pointer (some ⟨K, 0, none⟩), .int .i64 e] : Array Value) h fun v h' => v = .agg #[.int .i64 (e), .slice none 0 0, .int .i64 (0), .int .i64 (0)] ∧ LB h' K C X LS.z 0 ∧ Ext (fun x => x = K) h h' := by
  have hKl := hB.lt
  refine FC_of [(0, .pointer (some ⟨K, 0, none⟩)), (1, .int .i64 e)] Tryz.func123 rfl Tryz.ntmps123 (by simp) rfl (fun R hR => ?_)
  refine V_sr T.mix (by kernel_rfl) (fun K1 hK1 => ?_)
  refine S_allocA T.z148 ?_
  generalize hh : Array.push h _ = h1
  have hR1 : B h1 h.size #[.int .i64 0, .slice none 0 0, .int .i64 0, .int .i64 0] 148 := by rw [← hh]; exact B.new _ _ _
  have hEh1 : Ext (fun _ => False) h h1 := by rw [← hh]; exact Ext.push _ _ _
  have hsh1 : h1.size = h.size + 1 := by rw [← hh]; simp
  clear hh
  refine S_nil (hK1 _ _ (V_keep [0, 1, 4] (by simp only [proj, lk, reduceIte, Nat.reduceEqDiff]; rfl) ?_)); clear hK1
  refine V_sr T.mix (by kernel_rfl) (fun K2 hK2 => ?_)
  refine S_mv rfl ?_
  refine S_call T.hb128 rfl ?_
  refine FC.mono (wipe_spec h1 K C X st lv (hB.ext hEh1 (fun f => f))) ?_
  rintro v' h2 ⟨rfl, hB2, hE2⟩
  have hR2 := hR1.ext hE2 (fun e => by omega)
  have hrok : ∀ j, j < 4 → okPut h2 ⟨h.size, j, none⟩ = true := fun j hj => hR2.ok (by simpa using hj)
  refine S_nil (hK2 _ _ (V_keep [1, 4] (by simp only [proj, lk, reduceIte, Nat.reduceEqDiff]; rfl) ?_)); clear hK2
  refine V_sr T.mix (by kernel_rfl) (fun K3 hK3 => ?_)
  refine S_mv rfl ?_
  refine S_bld rfl (T.bld148_0 _) ?_
  refine S_stl T.sz148 rfl rfl rfl rfl (fun j hj => by simp (disch := omega) only [hrok]) ?_
  generalize hh : putsH _ _ _ _ = h3
  have hR3 : B h3 (h.size) #[.int .i64 (e), .slice none 0 0, .int .i64 (0), .int .i64 (0)] 148 := by rw [← hh]; exact B.puts_all (hR2) (cs' := #[.int .i64 (e), .slice none 0 0, .int .i64 (0), .int .i64 (0)]) rfl
  have hEh3 : Ext (fun k => k = h.size) h2 h3 := by rw [← hh]; exact Ext.puts (S := fun k => k = h.size) rfl _ _ _
  clear hh
  refine S_nil (hK3 _ _ (V_keep [4] (by simp only [proj, lk, reduceIte, Nat.reduceEqDiff]; rfl) ?_)); clear hK3
  refine V_ret ?_
  refine hR _ _ (retc1 rfl rfl T.ag148 hR3 (by rfl) ?_)
  exact ⟨rfl, hB2.ext hEh3 (fun e => by omega), ((hEh1.mono fun _ f => f.elim).trans hE2).step hEh3 (fun b hb e => by omega)⟩
set_option maxHeartbeats 400000 in
theorem lbit_spec (h : Heap) (v : Nat) (hv : v ≤ 12) :
    FC Tryz.prog 142 (#[.int .i64 (v : Int)] : Array Value) h fun rv h' => rv = .int .u16 ((2 ^ v : Nat) : Int) ∧ h = h' := by
  refine FC_of [(0, .int .i64 (v : Int))] Tryz.func142 rfl Tryz.ntmps142 (by simp) rfl (fun R hR => ?_)
  refine V_sr T.mix (by kernel_rfl) (fun K1 hK1 => ?_)
  refine S_as rfl ?_
  refine S_nil (hK1 _ _ (V_keep [0] (by simp only [proj, lk, reduceIte, Nat.reduceEqDiff]; rfl) ?_)); clear hK1
  refine V_sr T.mix (by kernel_rfl) (fun K2 hK2 => ?_)
  refine S_mv rfl ?_
  refine S_nand v 15 v rfl rfl rfl rfl (and15 hv) (Nat.lt_of_le_of_lt hv (by decide)) (by decide) ?_
  first | refine S_cvn T.us3 T.in57 rfl rfl (by first | omega | (simp only [IntKind.bits]; omega)) ?_ | refine S_cvu T.us3 T.in57 rfl (by omega) (by omega) ?_ | refine S_cv T.us3 T.in57 rfl ?_
  refine S_nshl 1 v (2 ^ v) rfl rfl rfl rfl (Nat.one_mul _) (show v ≤ 16 by omega) (t13 (p13 (by omega))) ?_
  refine S_as rfl ?_
  refine S_nil (hK2 _ _ (V_keep [2] (by simp only [proj, lk, reduceIte, Nat.reduceEqDiff]; rfl) ?_)); clear hK2
  refine V_ret ?_
  refine hR _ _ (ret1 rfl rfl ?_)
  exact ⟨rfl, rfl⟩
set_option maxHeartbeats 400000 in
theorem ljoin_spec (h : Heap) (K C X : Nat) (st : LS) (lv : Int) (hB : LB h K C X st lv) (x : Int) (hx : -12 ≤ x ∧ x ≤ 12) (ok : st.ok) :
    FC Tryz.prog 126 (#[.pointer (some ⟨K, 0, none⟩), .int .i64 x] : Array Value) h fun v h' => v = .tuple #[] ∧ LB h' K C X (joinF st x) lv ∧ Ext (fun x => x = K) h h' := by
  try clear l0 l1 l2 l3 l4 l5 l6 hlok
  obtain ⟨l0, l1, l2, l3, l4, l5, l6, hlok⟩ := lq (hB)
  refine FC_of [(0, .pointer (some ⟨K, 0, none⟩)), (1, .int .i64 x)] Tryz.func126 rfl Tryz.ntmps126 (by simp) rfl (fun R hR => ?_)
  refine V_sr T.mix (by kernel_rfl) (fun K1 hK1 => ?_)
  refine S_mv rfl ?_
  refine S_call T.hb52 rfl ?_
  refine FC.mono (var_spec _ (x) (by omega) (by omega)) ?_
  rintro v' h' ⟨rfl, rfl⟩
  refine S_as rfl ?_
  refine S_nil (hK1 _ _ (V_keep [0, 1, 4] (by simp only [proj, lk, reduceIte, Nat.reduceEqDiff]; rfl) ?_)); clear hK1
  refine V_sr T.mix (by kernel_rfl) (fun K2 hK2 => ?_)
  refine S_mv rfl ?_
  refine S_bin rfl rfl rfl ?_
  refine S_nil (hK2 _ _ (V_keep [0, 4, 8] (by simp only [proj, lk, reduceIte, Nat.reduceEqDiff]; rfl) ?_)); clear hK2
  refine V_condp rfl (fun c46 => ?_) (fun c46 => ?_)
  · skip
    refine V_regM #[0, 1, 2, 3, 4, 5, 6, 7, 8, 9, 10] [0, 1, 2, 3, 4, 5] 6 [7, 8, 9, 10] T.mix (by kernel_rfl) rfl ⟨rfl, rfl⟩ ?_
    refine S_mv rfl ?_
    refine S_mv rfl ?_
    refine S_nc rfl ?_
    first | refine S_fa0 T.f107_3 rfl ?_ | refine S_fa T.f107_3 rfl ?_
    refine S_ldK T.ag51 rfl (fun K' hK' => ?_)
    simp (disch := omega) only [l0, l1, l2, l3, l4, l5, l6, oP_some, Nat.add_zero]
    refine hK' _ ?_; clear hK' K'
    refine S_mv rfl ?_
    refine S_nil ?_
    refine SM_call T.hb142 rfl ?_
    refine FC.mono (lbit_spec h x.natAbs (by omega)) ?_
    rintro v' h' ⟨rfl, rfl⟩
    first | refine ⟨Grows.refl _, ?_⟩ | refine ⟨Grows.of_ext (by assumption), ?_⟩
    refine S_nor (st.pos) (2 ^ x.natAbs) _ rfl rfl rfl rfl rfl (t13 ok.p) (t13 (p13 (by omega))) ?_
    refine S_nc rfl ?_
    first | refine S_fa0 T.f107_3 rfl ?_ | refine S_fa T.f107_3 rfl ?_
    refine S_st T.sz51 rfl rfl rfl rfl (by simp (disch := omega) only [hlok]) ?_
    generalize hh : putH _ _ _ = h1
    have hBh1 : LB h1 K C X { st with pos := st.pos ||| 2 ^ x.natAbs } (lv) := by rw [← hh]; exact (hB).put 3 _
    have hEh1 : Ext (fun x => x = K) h h1 := by rw [← hh]; exact Ext.put _ _ rfl
    clear hh
    try clear l0 l1 l2 l3 l4 l5 l6 hlok
    obtain ⟨l0, l1, l2, l3, l4, l5, l6, hlok⟩ := lq (hBh1)
    refine S_nilk [] (by simp only [proj, lk, reduceIte, Nat.reduceEqDiff]; rfl) ?_
    -- end
    refine hR _ _ (ret0 rfl ?_)
    exact ⟨rfl, by unfold joinF; rw [if_pos (by omega)]; exact hBh1, hEh1⟩
  · skip
    refine V_regM #[0, 1, 2, 3, 4, 5, 6, 7, 8, 9, 10] [0, 1, 2, 3, 4, 5] 6 [7, 8, 9, 10] T.mix (by kernel_rfl) rfl ⟨rfl, rfl⟩ ?_
    refine S_mv rfl ?_
    refine S_mv rfl ?_
    refine S_nc rfl ?_
    first | refine S_fa0 T.f107_4 rfl ?_ | refine S_fa T.f107_4 rfl ?_
    refine S_ldK T.ag51 rfl (fun K' hK' => ?_)
    simp (disch := omega) only [l0, l1, l2, l3, l4, l5, l6, oP_some, Nat.add_zero]
    refine hK' _ ?_; clear hK' K'
    refine S_mv rfl ?_
    refine S_nil ?_
    refine SM_call T.hb142 rfl ?_
    refine FC.mono (lbit_spec h x.natAbs (by omega)) ?_
    rintro v' h' ⟨rfl, rfl⟩
    first | refine ⟨Grows.refl _, ?_⟩ | refine ⟨Grows.of_ext (by assumption), ?_⟩
    refine S_nor (st.neg) (2 ^ x.natAbs) _ rfl rfl rfl rfl rfl (t13 ok.n) (t13 (p13 (by omega))) ?_
    refine S_nc rfl ?_
    first | refine S_fa0 T.f107_4 rfl ?_ | refine S_fa T.f107_4 rfl ?_
    refine S_st T.sz51 rfl rfl rfl rfl (by simp (disch := omega) only [hlok]) ?_
    generalize hh : putH _ _ _ = h1
    have hBh1 : LB h1 K C X { st with neg := st.neg ||| 2 ^ x.natAbs } (lv) := by rw [← hh]; exact (hB).put 4 _
    have hEh1 : Ext (fun x => x = K) h h1 := by rw [← hh]; exact Ext.put _ _ rfl
    clear hh
    try clear l0 l1 l2 l3 l4 l5 l6 hlok
    obtain ⟨l0, l1, l2, l3, l4, l5, l6, hlok⟩ := lq (hBh1)
    refine S_nilk [] (by simp only [proj, lk, reduceIte, Nat.reduceEqDiff]; rfl) ?_
    -- end
    refine hR _ _ (ret0 rfl ?_)
    exact ⟨rfl, by unfold joinF; rw [if_neg (by omega)]; exact hBh1, hEh1⟩
set_option maxHeartbeats 400000 in
theorem lholds_spec (h : Heap) (K C X : Nat) (st : LS) (lv : Int) (hB : LB h K C X st lv) (x : Int) (hx : -12 ≤ x ∧ x ≤ 12) (ok : st.ok) :
    FC Tryz.prog 147 (#[.pointer (some ⟨K, 0, none⟩), .int .i64 x] : Array Value) h fun v h' => v = .bool (holdsF st x) ∧ h = h' := by
  try clear l0 l1 l2 l3 l4 l5 l6 hlok
  obtain ⟨l0, l1, l2, l3, l4, l5, l6, hlok⟩ := lq (hB)
  refine FC_of [(0, .pointer (some ⟨K, 0, none⟩)), (1, .int .i64 x)] Tryz.func147 rfl Tryz.ntmps147 (by simp) rfl (fun R hR => ?_)
  refine V_sr T.mix (by kernel_rfl) (fun K1 hK1 => ?_)
  refine S_as rfl ?_
  refine S_nil (hK1 _ _ (V_keep [0, 1] (by simp only [proj, lk, reduceIte, Nat.reduceEqDiff]; rfl) ?_)); clear hK1
  refine V_sr T.mix (by kernel_rfl) (fun K2 hK2 => ?_)
  refine S_mv rfl ?_
  refine S_call T.hb52 rfl ?_
  refine FC.mono (var_spec _ (x) (by omega) (by omega)) ?_
  rintro v' h' ⟨rfl, rfl⟩
  refine S_as rfl ?_
  refine S_nil (hK2 _ _ (V_keep [0, 1, 5] (by simp only [proj, lk, reduceIte, Nat.reduceEqDiff]; rfl) ?_)); clear hK2
  refine V_seq (fun K3 hK3 => ?_)
  refine V_sr T.mix (by kernel_rfl) (fun K4 hK4 => ?_)
  refine S_mv rfl ?_
  refine S_bin rfl rfl rfl ?_
  refine S_nil (hK4 _ _ (V_keep [0, 5, 9] (by simp only [proj, lk, reduceIte, Nat.reduceEqDiff]; rfl) ?_)); clear hK4
  refine V_condp rfl (fun c56 => ?_) (fun c56 => ?_)
  · skip
    refine V_srM #[0, 1, 2, 3, 4, 5, 6, 7, 8] [0, 1, 2, 3, 4] 5 [6, 7, 8] T.mix (by kernel_rfl) rfl ⟨rfl, rfl⟩ (fun K5 hK5 => ?_)
    refine S_mv rfl ?_
    refine S_nc rfl ?_
    first | refine S_fa0 T.f107_3 rfl ?_ | refine S_fa T.f107_3 rfl ?_
    refine S_ldK T.ag51 rfl (fun K' hK' => ?_)
    simp (disch := omega) only [l0, l1, l2, l3, l4, l5, l6, oP_some, Nat.add_zero]
    refine hK' _ ?_; clear hK' K'
    refine S_mv rfl ?_
    refine S_nil ?_
    refine SM_call T.hb142 rfl ?_
    refine FC.mono (lbit_spec h x.natAbs (by omega)) ?_
    rintro v' h' ⟨rfl, rfl⟩
    first | refine ⟨Grows.refl _, ?_⟩ | refine ⟨Grows.of_ext (by assumption), ?_⟩
    refine S_nand (st.pos) (2 ^ x.natAbs) _ rfl rfl rfl rfl rfl (t13 ok.p) (t13 (p13 (by omega))) ?_
    refine S_bin rfl rfl rfl ?_
    refine S_as rfl ?_
    refine S_nil (hK5 _ _ (V_keep [4] (by simp only [proj, lk, reduceIte, Nat.reduceEqDiff]; rfl) ?_)); clear hK5
    refine V_ret ?_
    refine hR _ _ (ret1 rfl rfl ?_)
    exact ⟨by unfold holdsF; rw [if_pos (by omega), ← bit_neq], rfl⟩
  · skip
    refine V_skipk [0, 5] (by simp only [proj, lk, reduceIte, Nat.reduceEqDiff]; rfl) ?_
    refine hK3 _ _ ?_; clear hK3
    refine V_srM #[0, 1, 2, 3, 4, 5, 6, 7, 8] [0, 1, 2, 3, 4] 5 [6, 7, 8] T.mix (by kernel_rfl) rfl ⟨rfl, rfl⟩ (fun K6 hK6 => ?_)
    refine S_mv rfl ?_
    refine S_nc rfl ?_
    first | refine S_fa0 T.f107_4 rfl ?_ | refine S_fa T.f107_4 rfl ?_
    refine S_ldK T.ag51 rfl (fun K' hK' => ?_)
    simp (disch := omega) only [l0, l1, l2, l3, l4, l5, l6, oP_some, Nat.add_zero]
    refine hK' _ ?_; clear hK' K'
    refine S_mv rfl ?_
    refine S_nil ?_
    refine SM_call T.hb142 rfl ?_
    refine FC.mono (lbit_spec h x.natAbs (by omega)) ?_
    rintro v' h' ⟨rfl, rfl⟩
    first | refine ⟨Grows.refl _, ?_⟩ | refine ⟨Grows.of_ext (by assumption), ?_⟩
    refine S_nand (st.neg) (2 ^ x.natAbs) _ rfl rfl rfl rfl rfl (t13 ok.n) (t13 (p13 (by omega))) ?_
    refine S_bin rfl rfl rfl ?_
    refine S_as rfl ?_
    refine S_nil (hK6 _ _ (V_keep [4] (by simp only [proj, lk, reduceIte, Nat.reduceEqDiff]; rfl) ?_)); clear hK6
    refine V_ret ?_
    refine hR _ _ (ret1 rfl rfl ?_)
    exact ⟨by unfold holdsF; rw [if_neg (by omega), ← bit_neq], rfl⟩
set_option maxHeartbeats 400000 in
theorem mark_spec (h : Heap) (K C X : Nat) (st : LS) (lv : Int) (hB : LB h K C X st lv) (W : WC) (cl : Nat → Option (List Int)) (s : TS) (p : Nat) (wx : WX h C X W cl s p) (nk : K ≠ C ∧ K ≠ X) (x : Int) (hx : -12 ≤ x ∧ x ≤ 12) (ok : st.ok) (hop : -1000 ≤ st.op ∧ st.op ≤ 1000) :
    FC Tryz.prog 141 (#[.pointer (some ⟨K, 0, none⟩), .int .i64 x] : Array Value) h fun v h' => v = .bool (markF s lv st x).2 ∧ LB h' K C X (markF s lv st x).1 lv ∧ Ext (fun x => x = K) h h' := by
  try clear l0 l1 l2 l3 l4 l5 l6 hlok
  obtain ⟨l0, l1, l2, l3, l4, l5, l6, hlok⟩ := lq (hB)
  refine FC_of [(0, .pointer (some ⟨K, 0, none⟩)), (1, .int .i64 x)] Tryz.func141 rfl Tryz.ntmps141 (by simp) rfl (fun R hR => ?_)
  refine V_sr T.mix (by kernel_rfl) (fun K1 hK1 => ?_)
  refine S_as rfl ?_
  refine S_nil (hK1 _ _ (V_keep [0, 1] (by simp only [proj, lk, reduceIte, Nat.reduceEqDiff]; rfl) ?_)); clear hK1
  refine V_sr T.mix (by kernel_rfl) (fun K2 hK2 => ?_)
  refine S_mv rfl ?_
  refine S_call T.hb52 rfl ?_
  refine FC.mono (var_spec _ (x) (by omega) (by omega)) ?_
  rintro v' h' ⟨rfl, rfl⟩
  refine S_as rfl ?_
  refine S_nil (hK2 _ _ (V_keep [0, 1, 5] (by simp only [proj, lk, reduceIte, Nat.reduceEqDiff]; rfl) ?_)); clear hK2
  refine V_sr T.mix (by kernel_rfl) (fun K3 hK3 => ?_)
  refine S_mv rfl ?_
  refine S_call T.hb142 rfl ?_
  refine FC.mono (lbit_spec h x.natAbs (by omega)) ?_
  rintro v' h' ⟨rfl, rfl⟩
  refine S_as rfl ?_
  refine S_nil (hK3 _ _ (V_keep [0, 1, 5, 6] (by simp only [proj, lk, reduceIte, Nat.reduceEqDiff]; rfl) ?_)); clear hK3
  refine V_seq (fun K4 hK4 => ?_)
  refine V_sr T.mix (by kernel_rfl) (fun K5 hK5 => ?_)
  refine S_mv rfl ?_
  refine S_nc rfl ?_
  first | refine S_fa0 T.f107_2 rfl ?_ | refine S_fa T.f107_2 rfl ?_
  refine S_ldK T.ag51 rfl (fun K' hK' => ?_)
  simp (disch := omega) only [l0, l1, l2, l3, l4, l5, l6, oP_some, Nat.add_zero]
  refine hK' _ ?_; clear hK' K'
  refine S_mv rfl ?_
  refine S_nand (st.seen) (2 ^ x.natAbs) _ rfl rfl rfl rfl rfl (t13 ok.s) (t13 (p13 (by omega))) ?_
  refine S_bin rfl rfl rfl ?_
  refine S_nil (hK5 _ _ (V_keep [0, 1, 5, 6, 18] (by simp only [proj, lk, reduceIte, Nat.reduceEqDiff]; rfl) ?_)); clear hK5
  refine V_condp rfl (fun c15 => ?_) (fun c15 => ?_)
  · skip
    have hsb : st.seen.testBit x.natAbs = true := and_ne.1 (by omega)
    refine V_sr T.mix (by kernel_rfl) (fun K6 hK6 => ?_)
    refine S_as rfl ?_
    refine S_nil (hK6 _ _ (V_keep [4] (by simp only [proj, lk, reduceIte, Nat.reduceEqDiff]; rfl) ?_)); clear hK6
    refine V_ret ?_
    refine hR _ _ (ret1 rfl rfl ?_)
    exact ⟨by unfold markF; rw [if_pos hsb], by unfold markF; rw [if_pos hsb]; exact hB, Ext.refl _ _⟩
  · skip
    have hsb : ¬ st.seen.testBit x.natAbs = true := fun e => by have h9 := and_ne.2 e; omega
    refine V_skipk [0, 1, 5, 6] (by simp only [proj, lk, reduceIte, Nat.reduceEqDiff]; rfl) ?_
    refine hK4 _ _ ?_; clear hK4
    refine V_sr T.mix (by kernel_rfl) (fun K7 hK7 => ?_)
    refine S_mv rfl ?_
    refine S_nc rfl ?_
    first | refine S_fa0 T.f107_0 rfl ?_ | refine S_fa T.f107_0 rfl ?_
    refine S_ldK T.ag30 rfl (fun K' hK' => ?_)
    simp (disch := omega) only [l0, l1, l2, l3, l4, l5, l6, oP_some, Nat.add_zero]
    refine hK' _ ?_; clear hK' K'
    refine S_mv rfl ?_
    refine S_call T.hb54 rfl ?_
    refine FC.mono (levelof_spec h X s p wx.t (x.natAbs : Int)) ?_
    rintro v' h' ⟨rfl, rfl⟩
    refine S_as rfl ?_
    refine S_nil (hK7 _ _ (V_keep [0, 1, 6, 7] (by simp only [proj, lk, reduceIte, Nat.reduceEqDiff]; rfl) ?_)); clear hK7
    refine V_seq (fun K8 hK8 => ?_)
    refine V_sr T.mix (by kernel_rfl) (fun K9 hK9 => ?_)
    refine S_mv rfl ?_
    refine S_bin rfl rfl rfl ?_
    refine S_nil (hK9 _ _ (V_keep [0, 1, 6, 7, 26] (by simp only [proj, lk, reduceIte, Nat.reduceEqDiff]; rfl) ?_)); clear hK9
    refine V_condp rfl (fun c19 => ?_) (fun c19 => ?_)
    · skip
      refine V_sr T.mix (by kernel_rfl) (fun K10 hK10 => ?_)
      refine S_as rfl ?_
      refine S_nil (hK10 _ _ (V_keep [4] (by simp only [proj, lk, reduceIte, Nat.reduceEqDiff]; rfl) ?_)); clear hK10
      refine V_ret ?_
      refine hR _ _ (ret1 rfl rfl ?_)
      exact ⟨by unfold markF; rw [if_neg hsb, if_pos c19], by unfold markF; rw [if_neg hsb, if_pos c19]; exact hB, Ext.refl _ _⟩
    · skip
      refine V_skipk [0, 1, 6, 7] (by simp only [proj, lk, reduceIte, Nat.reduceEqDiff]; rfl) ?_
      refine hK8 _ _ ?_; clear hK8
      refine V_sr T.mix (by kernel_rfl) (fun K11 hK11 => ?_)
      refine S_mv rfl ?_
      refine S_mv rfl ?_
      refine S_nc rfl ?_
      first | refine S_fa0 T.f107_2 rfl ?_ | refine S_fa T.f107_2 rfl ?_
      refine S_ldK T.ag51 rfl (fun K' hK' => ?_)
      simp (disch := omega) only [l0, l1, l2, l3, l4, l5, l6, oP_some, Nat.add_zero]
      refine hK' _ ?_; clear hK' K'
      refine S_mv rfl ?_
      refine S_nor (st.seen) (2 ^ x.natAbs) _ rfl rfl rfl rfl rfl (t13 ok.s) (t13 (p13 (by omega))) ?_
      refine S_nc rfl ?_
      first | refine S_fa0 T.f107_2 rfl ?_ | refine S_fa T.f107_2 rfl ?_
      refine S_st T.sz51 rfl rfl rfl rfl (by simp (disch := omega) only [hlok]) ?_
      generalize hh : putH _ _ _ = h1
      have hBh1 : LB h1 K C X { st with seen := st.seen ||| 2 ^ x.natAbs } (lv) := by rw [← hh]; exact (hB).put 2 _
      have hEh1 : Ext (fun x => x = K) h h1 := by rw [← hh]; exact Ext.put _ _ rfl
      clear hh
      try clear l0 l1 l2 l3 l4 l5 l6 hlok
      obtain ⟨l0, l1, l2, l3, l4, l5, l6, hlok⟩ := lq (hBh1)
      refine S_nil (hK11 _ _ (V_keep [0, 1, 7] (by simp only [proj, lk, reduceIte, Nat.reduceEqDiff]; rfl) ?_)); clear hK11
      refine V_seq (fun K12 hK12 => ?_)
      refine V_sr T.mix (by kernel_rfl) (fun K13 hK13 => ?_)
      refine S_mv rfl ?_
      refine S_mv rfl ?_
      refine S_nc rfl ?_
      first | refine S_fa0 T.f107_6 rfl ?_ | refine S_fa T.f107_6 rfl ?_
      refine S_ldK T.ag3 rfl (fun K' hK' => ?_)
      simp (disch := omega) only [l0, l1, l2, l3, l4, l5, l6, oP_some, Nat.add_zero]
      refine hK' _ ?_; clear hK' K'
      refine S_bin rfl rfl rfl ?_
      refine S_nil (hK13 _ _ (V_keep [0, 1, 7, 41] (by simp only [proj, lk, reduceIte, Nat.reduceEqDiff]; rfl) ?_)); clear hK13
      refine V_condp rfl (fun c23 => ?_) (fun c23 => ?_)
      · skip
        refine V_sr T.mix (by kernel_rfl) (fun K14 hK14 => ?_)
        refine S_mv rfl ?_
        refine S_nc rfl ?_
        first | refine S_fa0 T.f107_5 rfl ?_ | refine S_fa T.f107_5 rfl ?_
        refine S_ldK T.ag3 rfl (fun K' hK' => ?_)
        simp (disch := omega) only [l0, l1, l2, l3, l4, l5, l6, oP_some, Nat.add_zero]
        refine hK' _ ?_; clear hK' K'
        first | refine S_add rfl rfl (by omega) (by omega) ?_ | refine S_bin rfl rfl rfl ?_
        refine S_nc rfl ?_
        first | refine S_fa0 T.f107_5 rfl ?_ | refine S_fa T.f107_5 rfl ?_
        refine S_st T.sz3 rfl rfl rfl rfl (by simp (disch := omega) only [hlok]) ?_
        generalize hh : putH _ _ _ = h2
        have hBh2 : LB h2 K C X { st with seen := st.seen ||| 2 ^ x.natAbs, op := st.op + 1 } (lv) := by rw [← hh]; exact (hBh1).put 5 _
        have hEh2 : Ext (fun x => x = K) h1 h2 := by rw [← hh]; exact Ext.put _ _ rfl
        clear hh
        try clear l0 l1 l2 l3 l4 l5 l6 hlok
        obtain ⟨l0, l1, l2, l3, l4, l5, l6, hlok⟩ := lq (hBh2)
        refine S_nil (hK14 _ _ (V_keep [] (by simp only [proj, lk, reduceIte, Nat.reduceEqDiff]; rfl) ?_)); clear hK14
        refine V_sr T.mix (by kernel_rfl) (fun K15 hK15 => ?_)
        refine S_as rfl ?_
        refine S_nil (hK15 _ _ (V_keep [4] (by simp only [proj, lk, reduceIte, Nat.reduceEqDiff]; rfl) ?_)); clear hK15
        refine V_ret ?_
        refine hR _ _ (ret1 rfl rfl ?_)
        exact ⟨by unfold markF; rw [if_neg hsb, if_neg c19, if_pos c23], by unfold markF; rw [if_neg hsb, if_neg c19, if_pos c23]; exact hBh2, hEh1.trans hEh2⟩
      · skip
        refine V_skipk [0, 1, 7] (by simp only [proj, lk, reduceIte, Nat.reduceEqDiff]; rfl) ?_
        refine hK12 _ _ ?_; clear hK12
        refine V_seq (fun K16 hK16 => ?_)
        refine V_sr T.mix (by kernel_rfl) (fun K17 hK17 => ?_)
        refine S_mv rfl ?_
        refine S_bin rfl rfl rfl ?_
        refine S_nil (hK17 _ _ (V_keep [0, 1, 50] (by simp only [proj, lk, reduceIte, Nat.reduceEqDiff]; rfl) ?_)); clear hK17
        refine V_condp rfl (fun c27 => ?_) (fun c27 => ?_)
        · skip
          refine V_reg T.mix (by kernel_rfl) ?_
          refine S_mv rfl ?_
          refine S_mv rfl ?_
          refine S_call T.hb126 rfl ?_
          refine FC.mono (ljoin_spec h1 K C X _ lv hBh1 x hx ⟨or13 ok.s (p13 (by omega)), ok.p, ok.n⟩) ?_
          rintro v' h2 ⟨rfl, hB2, hE2⟩
          refine S_nilk [] (by simp only [proj, lk, reduceIte, Nat.reduceEqDiff]; rfl) ?_
          refine hK16 _ _ ?_; clear hK16
          refine V_sr T.mix (by kernel_rfl) (fun K18 hK18 => ?_)
          refine S_as rfl ?_
          refine S_nil (hK18 _ _ (V_keep [4] (by simp only [proj, lk, reduceIte, Nat.reduceEqDiff]; rfl) ?_)); clear hK18
          refine V_ret ?_
          refine hR _ _ (ret1 rfl rfl ?_)
          exact ⟨by unfold markF; rw [if_neg hsb, if_neg c19, if_neg c23, if_pos (by omega)], by unfold markF; rw [if_neg hsb, if_neg c19, if_neg c23, if_pos (by omega)]; exact hB2, hEh1.trans hE2⟩
        · skip
          refine V_skipk [] (by simp only [proj, lk, reduceIte, Nat.reduceEqDiff]; rfl) ?_
          refine hK16 _ _ ?_; clear hK16
          refine V_sr T.mix (by kernel_rfl) (fun K19 hK19 => ?_)
          refine S_as rfl ?_
          refine S_nil (hK19 _ _ (V_keep [4] (by simp only [proj, lk, reduceIte, Nat.reduceEqDiff]; rfl) ?_)); clear hK19
          refine V_ret ?_
          refine hR _ _ (ret1 rfl rfl ?_)
          exact ⟨by unfold markF; rw [if_neg hsb, if_neg c19, if_neg c23, if_neg (by omega)], by unfold markF; rw [if_neg hsb, if_neg c19, if_neg c23, if_neg (by omega)]; exact hBh1, hEh1⟩
set_option maxHeartbeats 400000 in
theorem markall_spec (h : Heap) (K C X : Nat) (st : LS) (lv : Int) (hB : LB h K C X st lv) (W : WC) (cl : Nat → Option (List Int)) (s : TS) (p : Nat) (wx : WX h C X W cl s p) (nk : K ≠ C ∧ K ≠ X) (ca : Option Addr) (cc : Nat) (c : List Int) (hIc : IL h ca cc c) (hnr : Nrm c) (hcK : ∀ b, blkA ca = some b → b ≠ K) (ok : st.ok) (hop : -900 ≤ st.op ∧ st.op ≤ 900) :
    FC Tryz.prog 124 (#[.pointer (some ⟨K, 0, none⟩), .slice ca c.length cc] : Array Value) h fun v h' => v = .bool (markA s lv st c).2 ∧ LB h' K C X (markA s lv st c).1 lv ∧ Ext (fun x => x = K) h h' := by
  have hln := hnr.len
  have hna : ∀ x ∈ c, x.natAbs ≤ 12 := fun x hx => by have h9 := hnr.1 x hx; unfold gd at h9; omega
  refine FC_of [(0, .pointer (some ⟨K, 0, none⟩)), (1, .slice ca c.length cc)] Tryz.func124 rfl Tryz.ntmps124 (by simp) rfl (fun R hR => ?_)
  refine V_sr T.mix (by kernel_rfl) (fun K1 hK1 => ?_)
  refine S_as rfl ?_
  refine S_nil (hK1 _ _ (V_keep [0, 1] (by simp only [proj, lk, reduceIte, Nat.reduceEqDiff]; rfl) ?_)); clear hK1
  refine V_seq (fun K2 hK2 => ?_)
  refine V_sr T.mix (by kernel_rfl) (fun K3 hK3 => ?_)
  refine S_as rfl ?_
  refine S_nil (hK3 _ _ (V_keep [0, 1, 5] (by simp only [proj, lk, reduceIte, Nat.reduceEqDiff]; rfl) ?_)); clear hK3
  refine V_block ?_
  refine V_loop (fun m l h' => ∃ (i : Nat) (hk : Heap), (i ≤ c.length) ∧ ((markA s lv st (c.take i)).2 = true) ∧ (LB hk K C X (markA s lv st (c.take i)).1 lv) ∧ (Ext (fun x => x = K) h hk) ∧ m = c.length - i ∧ l = [(0, .pointer (some ⟨K, 0, none⟩)), (1, .slice ca c.length cc), (5, .int .i64 (i : Int))] ∧ hk = h') _ ⟨0, h, by omega, by simp [markA], by simpa [markA] using hB, Ext.refl _ _, rfl, rfl, rfl⟩ ?_
  rintro m l h' ⟨i, hk, hi, hmt, hBk, hEk, rfl, rfl, rfl⟩ K4 hK4
  refine V_seq (fun K5 hK5 => ?_)
  refine V_sr T.mix (by kernel_rfl) (fun K6 hK6 => ?_)
  refine S_mv rfl ?_
  refine S_mv rfl ?_
  refine S_lenl T.el49 rfl ?_
  refine S_bin rfl rfl rfl ?_
  refine S_nil (hK6 _ _ (V_keep [0, 1, 5, 9] (by simp only [proj, lk, reduceIte, Nat.reduceEqDiff]; rfl) ?_)); clear hK6
  refine V_condp rfl (fun c35 => ?_) (fun c35 => ?_)
  · skip
    obtain ⟨bb, rfl, _, _, _⟩ := hIc.get (by omega)
    have hI := hIc.ext hEk (fun b e => hcK b e)
    refine V_skipk [0, 1, 5] (by simp only [proj, lk, reduceIte, Nat.reduceEqDiff]; rfl) ?_
    refine hK5 _ _ ?_; clear hK5
    refine V_seq (fun K7 hK7 => ?_)
    refine V_block ?_
    refine V_sr T.mix (by kernel_rfl) (fun K8 hK8 => ?_)
    refine S_mv rfl ?_
    refine S_mv rfl ?_
    refine S_mv rfl ?_
    first | refine S_ixn T.el49 rfl rfl (by omega) ?_ | refine S_ix1 T.el49 rfl rfl (by omega) (by omega) ?_ | refine S_ix T.el49 rfl rfl (by omega) (by omega) ?_
    refine S_ldK T.ag3 rfl (fun K' hK' => ?_)
    simp (disch := omega) only [hI.at, oP_some, Nat.add_zero]
    refine hK' _ ?_; clear hK' K'
    refine S_call T.hb141 rfl ?_
    have hmo := markA_ok (s := s) (lv := lv) (c := c.take i) ok (fun x hx => hna x (List.mem_of_mem_take hx))
    have hgx := gd_getD hnr.1 (show i < c.length by omega)
    unfold gd at hgx
    have htl : (c.take i).length ≤ i := by rw [List.length_take]; omega
    refine FC.mono (mark_spec hk K C X (markA s lv st (c.take i)).1 lv hBk W cl s p (wx.ext hEk (fun e => nk.1 e.symm) (fun e => nk.2 e.symm)) nk (c.getD i 0) (by omega) hmo.1 (by omega)) ?_
    rintro v' h2 ⟨rfl, hB2, hE2⟩
    have hsn := markA_snoc (s := s) (lv := lv) (st := st) (show i < c.length by omega) hmt
    rw [← hsn] at hB2 ⊢
    refine S_notb rfl ?_
    refine S_nil (hK8 _ _ (V_keep [0, 1, 5, 18] (by simp only [proj, lk, reduceIte, Nat.reduceEqDiff]; rfl) ?_)); clear hK8
    refine V_condb rfl (fun c36 => ?_) (fun c36 => ?_)
    · skip
      refine V_sr T.mix (by kernel_rfl) (fun K9 hK9 => ?_)
      refine S_as rfl ?_
      refine S_nil (hK9 _ _ (V_keep [4] (by simp only [proj, lk, reduceIte, Nat.reduceEqDiff]; rfl) ?_)); clear hK9
      refine V_ret ?_
      refine hR _ _ (ret1 rfl rfl ?_)
      have hmf : (markA s lv st (c.take (i + 1))).2 = false := by simpa using c36
      have hst := markA_stop (s := s) (lv := lv) (st := st) (show i + 1 ≤ c.length by omega) hmf
      exact ⟨by rw [hst, hmf], by rw [hst]; exact hB2, hEk.trans hE2⟩
    · skip
      refine V_skipk [0, 1, 5] (by simp only [proj, lk, reduceIte, Nat.reduceEqDiff]; rfl) ?_
      refine hK7 _ _ ?_; clear hK7
      refine V_reg T.mix (by kernel_rfl) ?_
      refine S_mv rfl ?_
      first | refine S_add rfl rfl (by omega) (by omega) ?_ | refine S_bin rfl rfl rfl ?_
      refine S_as rfl ?_
      refine S_nilk [0, 1, 5] (by simp only [proj, lk, reduceIte, Nat.reduceEqDiff]; rfl) ?_
      exact hK4 _ _ ⟨_, by omega, i + 1, h2, by omega, by simpa using c36, hB2, hEk.trans hE2, rfl, rfl, rfl⟩
  · skip
    refine V_exitk [] rfl (by simp only [proj, lk, reduceIte, Nat.reduceEqDiff]; rfl) ?_
    refine hK2 _ _ ?_; clear hK2
    refine V_sr T.mix (by kernel_rfl) (fun K10 hK10 => ?_)
    refine S_as rfl ?_
    refine S_nil (hK10 _ _ (V_keep [4] (by simp only [proj, lk, reduceIte, Nat.reduceEqDiff]; rfl) ?_)); clear hK10
    refine V_ret ?_
    refine hR _ _ (ret1 rfl rfl ?_)
    rw [show i = c.length by omega, List.take_length] at hmt hBk
    exact ⟨by rw [hmt], hBk, hEk⟩
end Go.Proofs.Qxb6500401aGreat
