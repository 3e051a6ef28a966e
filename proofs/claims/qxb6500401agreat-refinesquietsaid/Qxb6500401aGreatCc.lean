import Derived.Test.Qxb6500401aGreatCb
set_option linter.unusedVariables false
set_option linter.unusedSimpArgs false
namespace Go.Proofs.Qxb6500401aGreat.ChkW
open Go.Eng Go.Cnf

def pcells (a : Option Addr) (cap : Nat) (p : PS) : Array Value := #[.slice a p.arena.length cap, .int .i64 p.state, .int .i64 p.start, .bool p.minus, .int .i64 p.val, .int .u16 p.pos, .int .u16 p.neg, .bool p.del, .bool p.opn, .int .i64 p.err, .int .i64 p.loc]
structure Par (h : Heap) (X : Nat) (a : Option Addr) (cap : Nat) (p : PS) : Prop where
  s : B h X (pcells a cap p) 100
  ar : IL h a cap p.arena
  n : blkA a ≠ some X
  bd : p.val ≤ 200 ∧ p.pos < 8192 ∧ p.neg < 8192
section par
variable {h h' : Heap} {X : Nat} {a : Option Addr} {cap : Nat} {p p' : PS}
theorem Par.c0 (hP : Par h X a cap p) : cellH h ⟨X, 0, none⟩ = some (.slice a p.arena.length cap) := hP.s.cell 0
theorem Par.c1 (hP : Par h X a cap p) : cellH h ⟨X, 1, none⟩ = some (.int .i64 p.state) := hP.s.cell 1
theorem Par.c2 (hP : Par h X a cap p) : cellH h ⟨X, 2, none⟩ = some (.int .i64 p.start) := hP.s.cell 2
theorem Par.c3 (hP : Par h X a cap p) : cellH h ⟨X, 3, none⟩ = some (.bool (decide (p.minus = true))) := by rw [hP.s.cell 3]; simp [pcells]
theorem Par.c4 (hP : Par h X a cap p) : cellH h ⟨X, 4, none⟩ = some (.int .i64 p.val) := hP.s.cell 4
theorem Par.c5 (hP : Par h X a cap p) : cellH h ⟨X, 5, none⟩ = some (.int .u16 p.pos) := hP.s.cell 5
theorem Par.c6 (hP : Par h X a cap p) : cellH h ⟨X, 6, none⟩ = some (.int .u16 p.neg) := hP.s.cell 6
theorem Par.c7 (hP : Par h X a cap p) : cellH h ⟨X, 7, none⟩ = some (.bool (decide (p.del = true))) := by rw [hP.s.cell 7]; simp [pcells]
theorem Par.c8 (hP : Par h X a cap p) : cellH h ⟨X, 8, none⟩ = some (.bool (decide (p.opn = true))) := by rw [hP.s.cell 8]; simp [pcells]
theorem Par.c9 (hP : Par h X a cap p) : cellH h ⟨X, 9, none⟩ = some (.int .i64 p.err) := hP.s.cell 9
theorem Par.c10 (hP : Par h X a cap p) : cellH h ⟨X, 10, none⟩ = some (.int .i64 p.loc) := hP.s.cell 10
theorem Par.ok (hP : Par h X a cap p) {i : Nat} (hi : i < 11) : okPut h ⟨X, i, none⟩ = true := hP.s.ok (by simpa [pcells] using hi)
theorem Par.eq (hP : Par h X a cap p) (e : p = p') : Par h X a cap p' := e ▸ hP
theorem Par.upd (hP : Par h X a cap p) (hS : B h' X (pcells a cap p') 100) (he : Ext (fun b => b = X) h h') (e : p'.arena = p.arena) (hb : p'.val ≤ 200 ∧ p'.pos < 8192 ∧ p'.neg < 8192) : Par h' X a cap p' :=
  ⟨hS, by rw [e]; exact hP.ar.ext he (fun b hb e => hP.n (e ▸ hb)), hP.n, hb⟩
/-- only the parser's own blocks have turned -/
def PEx (X : Nat) (h h' : Heap) (a a' : Option Addr) : Prop := Ext (fun b => b = X ∨ blkA a = some b) h h' ∧ ∀ b, blkA a' = some b → blkA a = some b ∨ h.size ≤ b
theorem PEx.refl (X : Nat) (h : Heap) (a : Option Addr) : PEx X h h a a := ⟨Ext.refl _ _, fun _ h => .inl h⟩
theorem PEx.trans {h1 h2 : Heap} {b c : Option Addr} (x : PEx X h h1 a b) (y : PEx X h1 h2 b c) : PEx X h h2 a c := by
  refine ⟨x.1.step y.1 (fun k hk e => ?_), fun k hk => ?_⟩
  · rcases e with e | e
    · exact .inl e
    · rcases x.2 k e with e | e; exact .inr e; omega
  · rcases y.2 k hk with e | e
    · exact x.2 k e
    · have := x.1.1; exact .inr (by omega)
theorem PEx.put {h1 h2 : Heap} {b : Option Addr} (x : PEx X h h1 a b) (he : Ext (fun b => b = X) h1 h2) : PEx X h h2 a b :=
  x.trans ⟨he.mono fun _ e => .inl e, fun _ h => .inl h⟩
theorem PEx.own {h1 h2 : Heap} {b c : Option Addr} (x : PEx X h h1 a b) (y : OWNED h1 h2 b c) : PEx X h h2 a c :=
  x.trans ⟨y.1.mono fun _ e => .inr e, y.2⟩
theorem Par.put (hP : Par h X a cap p) (i : Nat) (v : Value) (hc : (pcells a cap p).setIfInBounds i v = pcells a cap p') (e : p'.arena = p.arena) (hb : p'.val ≤ 200 ∧ p'.pos < 8192 ∧ p'.neg < 8192) : Par (putH h ⟨X, i, none⟩ v) X a cap p' :=
  hP.upd (hc ▸ hP.s.put i v) (Ext.put _ _ rfl) e hb
theorem PEx.putH {h1 : Heap} {b : Option Addr} (x : PEx X h h1 a b) (i : Nat) (v : Value) : PEx X h (Go.Eng.putH h1 ⟨X, i, none⟩ v) a b := x.put (Ext.put _ _ rfl)
/-- the parser with a new arena -/
theorem Par.arena {l : List Int} {a1 : Option Addr} {cap1 : Nat} (hS : B h X (pcells a cap p) 100) (hI : IL h a1 cap1 l) (hn : blkA a1 ≠ some X) (hb : p.val ≤ 200 ∧ p.pos < 8192 ∧ p.neg < 8192) : Par (Go.Eng.putH h ⟨X, 0, none⟩ (.slice a1 l.length cap1)) X a1 cap1 { p with arena := l } :=
  ⟨hS.put 0 _, hI.ext (Ext.put (fun b => b = X) h rfl) (fun b hb e => hn (e ▸ hb)), hn, hb⟩
end par
theorem tbT {a v : Nat} (h : ((a &&& 2 ^ v : Nat) : Int) ≠ 0) : a.testBit v = true := by
  cases hh : a.testBit v with
  | true => rfl
  | false => exact absurd ((and_bit a v).2 hh) (by omega)
theorem tbF {a v : Nat} (h : ¬ ((a &&& 2 ^ v : Nat) : Int) ≠ 0) : a.testBit v = false := (and_bit a v).1 (by omega)
theorem lits_step (pos neg : Nat) {v : Nat} (h : 1 ≤ v) : litsTo pos neg (v + 1 - 1) = litsTo pos neg (v - 1) ++ ((if pos.testBit v then [(v : Int)] else []) ++ (if neg.testBit v then [-(v : Int)] else [])) := by
  obtain ⟨u, rfl⟩ : ∃ u, v = u + 1 := ⟨v - 1, by omega⟩
  simp [litsTo]
theorem litsTo_len (pos neg : Nat) : ∀ k, (litsTo pos neg k).length ≤ 2 * k
  | 0 => by simp [litsTo]
  | k + 1 => by
    have := litsTo_len pos neg k
    simp only [litsTo, List.length_append]
    split <;> split <;> simp <;> omega
theorem rowL_len (d : Bool) (pos neg : Nat) : (rowL d pos neg).length ≤ 26 := by
  have := litsTo_len pos neg 12
  unfold rowL; cases d <;> simp <;> omega
theorem feed_len (p : PS) (c i : Nat) : (feedF p c i).arena.length ≤ p.arena.length + 26 := by
  have hn : ∀ q : PS, (numberF q).arena.length ≤ q.arena.length + 26 := by
    intro q
    unfold numberF failF endRowF
    repeat' split
    all_goals first | omega | (have := rowL_len q.del q.pos q.neg; simp only [List.length_append]; omega)
  unfold feedF beginF failF
  simp only
  repeat' split
  all_goals first | exact hn _ | omega | (simp only; omega)
set_option maxHeartbeats 400000 in
theorem class_spec (h : Heap) (c : Nat) :
    FC Tryz.prog 112 (#[.int .u8 c] : Array Value) h fun v h' => v = .int .i64 (ccls c) ∧ h = h' := by
  refine FC_of [(0, .int .u8 c)] Tryz.func112 rfl Tryz.ntmps112 (by simp) rfl (fun R hR => ?_)
  refine V_sr T.mix (by kernel_rfl) (fun K1 hK1 => ?_)
  refine S_as rfl ?_
  refine S_nil (hK1 _ _ (V_keep [0] (by simp only [proj, lk, reduceIte, Nat.reduceEqDiff]; rfl) ?_)); clear hK1
  refine V_seq (fun K2 hK2 => ?_)
  refine V_sr T.mix (by kernel_rfl) (fun K3 hK3 => ?_)
  refine S_mv rfl ?_
  refine S_nil (hK3 _ _ (V_keep [0, 3] (by simp only [proj, lk, reduceIte, Nat.reduceEqDiff]; rfl) ?_)); clear hK3
  refine V_block ?_
  refine V_seq (fun K4 hK4 => ?_)
  refine V_sr T.mix (by kernel_rfl) (fun K5 hK5 => ?_)
  refine S_bin rfl rfl rfl ?_
  refine S_as rfl ?_
  refine S_nil (hK5 _ _ (V_keep [0, 3, 4] (by simp only [proj, lk, reduceIte, Nat.reduceEqDiff]; rfl) ?_)); clear hK5
  refine V_condp rfl (fun c27 => ?_) (fun c27 => ?_)
  · skip
    refine V_skipk [0, 3, 4] (by simp only [proj, lk, reduceIte, Nat.reduceEqDiff]; rfl) ?_
    refine hK4 _ _ ?_; clear hK4
    refine V_condp rfl (fun c27a => ?_) (fun c27a => ?_)
    · skip
      refine V_sr T.mix (by kernel_rfl) (fun K6 hK6 => ?_)
      refine S_as rfl ?_
      refine S_nil (hK6 _ _ (V_keep [2] (by simp only [proj, lk, reduceIte, Nat.reduceEqDiff]; rfl) ?_)); clear hK6
      refine V_ret ?_
      refine hR _ _ (ret1 rfl rfl ?_)
      refine ⟨?_, rfl⟩
      congr 1
      unfold ccls
      repeat' split
      all_goals omega
    · skip
      refine V_sr T.mix (by kernel_rfl) (fun K7 hK7 => ?_)
      refine S_bin rfl rfl rfl ?_
      refine S_as rfl ?_
      refine S_nil (hK7 _ _ (V_keep [0, 3, 9] (by simp only [proj, lk, reduceIte, Nat.reduceEqDiff]; rfl) ?_)); clear hK7
      refine V_condp rfl (fun c29 => ?_) (fun c29 => ?_)
      · skip
        refine V_sr T.mix (by kernel_rfl) (fun K8 hK8 => ?_)
        refine S_as rfl ?_
        refine S_nil (hK8 _ _ (V_keep [2] (by simp only [proj, lk, reduceIte, Nat.reduceEqDiff]; rfl) ?_)); clear hK8
        refine V_ret ?_
        refine hR _ _ (ret1 rfl rfl ?_)
        refine ⟨?_, rfl⟩
        congr 1
        unfold ccls
        repeat' split
        all_goals omega
      · skip
        refine V_sr T.mix (by kernel_rfl) (fun K9 hK9 => ?_)
        refine S_bin rfl rfl rfl ?_
        refine S_as rfl ?_
        refine S_nil (hK9 _ _ (V_keep [0, 3, 11] (by simp only [proj, lk, reduceIte, Nat.reduceEqDiff]; rfl) ?_)); clear hK9
        refine V_condp rfl (fun c31 => ?_) (fun c31 => ?_)
        · skip
          refine V_sr T.mix (by kernel_rfl) (fun K10 hK10 => ?_)
          refine S_as rfl ?_
          refine S_nil (hK10 _ _ (V_keep [2] (by simp only [proj, lk, reduceIte, Nat.reduceEqDiff]; rfl) ?_)); clear hK10
          refine V_ret ?_
          refine hR _ _ (ret1 rfl rfl ?_)
          refine ⟨?_, rfl⟩
          congr 1
          unfold ccls
          repeat' split
          all_goals omega
        · skip
          refine V_sr T.mix (by kernel_rfl) (fun K11 hK11 => ?_)
          refine S_bin rfl rfl rfl ?_
          refine S_as rfl ?_
          refine S_nil (hK11 _ _ (V_keep [0, 13] (by simp only [proj, lk, reduceIte, Nat.reduceEqDiff]; rfl) ?_)); clear hK11
          refine V_condp rfl (fun c33 => ?_) (fun c33 => ?_)
          · skip
            refine V_sr T.mix (by kernel_rfl) (fun K12 hK12 => ?_)
            refine S_as rfl ?_
            refine S_nil (hK12 _ _ (V_keep [2] (by simp only [proj, lk, reduceIte, Nat.reduceEqDiff]; rfl) ?_)); clear hK12
            refine V_ret ?_
            refine hR _ _ (ret1 rfl rfl ?_)
            refine ⟨?_, rfl⟩
            congr 1
            unfold ccls
            repeat' split
            all_goals omega
          · skip
            refine V_skipk [0] (by simp only [proj, lk, reduceIte, Nat.reduceEqDiff]; rfl) ?_
            refine hK2 _ _ ?_; clear hK2
            refine V_seq (fun K13 hK13 => ?_)
            refine V_sr T.mix (by kernel_rfl) (fun K14 hK14 => ?_)
            refine S_mv rfl ?_
            refine S_bin rfl rfl rfl ?_
            refine S_mv rfl ?_
            refine S_dec (fun g36 => ?_) (fun g36 => ?_)
            · skip
              refine S_gt rfl ?_
              refine S_mv rfl ?_
              refine S_gt rfl ?_
              refine S_bin rfl rfl rfl ?_
              refine S_pt rfl rfl ?_
              refine S_nil (hK14 _ _ (V_keep [20] (by simp only [proj, lk, reduceIte, Nat.reduceEqDiff]; rfl) ?_)); clear hK14
              refine V_condp rfl (fun c36 => ?_) (fun c36 => ?_)
              · skip
                refine V_sr T.mix (by kernel_rfl) (fun K15 hK15 => ?_)
                refine S_as rfl ?_
                refine S_nil (hK15 _ _ (V_keep [2] (by simp only [proj, lk, reduceIte, Nat.reduceEqDiff]; rfl) ?_)); clear hK15
                refine V_ret ?_
                refine hR _ _ (ret1 rfl rfl ?_)
                refine ⟨?_, rfl⟩
                congr 1
                unfold ccls
                repeat' split
                all_goals omega
              · skip
                refine V_skipk [] (by simp only [proj, lk, reduceIte, Nat.reduceEqDiff]; rfl) ?_
                refine hK13 _ _ ?_; clear hK13
                refine V_sr T.mix (by kernel_rfl) (fun K16 hK16 => ?_)
                refine S_as rfl ?_
                refine S_nil (hK16 _ _ (V_keep [2] (by simp only [proj, lk, reduceIte, Nat.reduceEqDiff]; rfl) ?_)); clear hK16
                refine V_ret ?_
                refine hR _ _ (ret1 rfl rfl ?_)
                refine ⟨?_, rfl⟩
                congr 1
                unfold ccls
                repeat' split
                all_goals omega
            · skip
              refine S_gf rfl ?_
              refine S_gf rfl ?_
              refine S_pf rfl rfl ?_
              refine S_nil (hK14 _ _ (V_keep [20] (by simp only [proj, lk, reduceIte, Nat.reduceEqDiff]; rfl) ?_)); clear hK14
              refine V_condf rfl ?_
              refine V_skipk [] (by simp only [proj, lk, reduceIte, Nat.reduceEqDiff]; rfl) ?_
              refine hK13 _ _ ?_; clear hK13
              refine V_sr T.mix (by kernel_rfl) (fun K17 hK17 => ?_)
              refine S_as rfl ?_
              refine S_nil (hK17 _ _ (V_keep [2] (by simp only [proj, lk, reduceIte, Nat.reduceEqDiff]; rfl) ?_)); clear hK17
              refine V_ret ?_
              refine hR _ _ (ret1 rfl rfl ?_)
              refine ⟨?_, rfl⟩
              congr 1
              unfold ccls
              repeat' split
              all_goals omega
  · skip
    refine V_sr T.mix (by kernel_rfl) (fun K18 hK18 => ?_)
    refine S_bin rfl rfl rfl ?_
    refine S_as rfl ?_
    refine S_nil (hK18 _ _ (V_keep [0, 3, 4] (by simp only [proj, lk, reduceIte, Nat.reduceEqDiff]; rfl) ?_)); clear hK18
    refine V_condp rfl (fun c27b => ?_) (fun c27b => ?_)
    · skip
      refine V_skipk [0, 3, 4] (by simp only [proj, lk, reduceIte, Nat.reduceEqDiff]; rfl) ?_
      refine hK4 _ _ ?_; clear hK4
      refine V_condp rfl (fun c27c => ?_) (fun c27c => ?_)
      · skip
        refine V_sr T.mix (by kernel_rfl) (fun K19 hK19 => ?_)
        refine S_as rfl ?_
        refine S_nil (hK19 _ _ (V_keep [2] (by simp only [proj, lk, reduceIte, Nat.reduceEqDiff]; rfl) ?_)); clear hK19
        refine V_ret ?_
        refine hR _ _ (ret1 rfl rfl ?_)
        refine ⟨?_, rfl⟩
        congr 1
        unfold ccls
        repeat' split
        all_goals omega
      · skip
        refine V_sr T.mix (by kernel_rfl) (fun K20 hK20 => ?_)
        refine S_bin rfl rfl rfl ?_
        refine S_as rfl ?_
        refine S_nil (hK20 _ _ (V_keep [0, 3, 9] (by simp only [proj, lk, reduceIte, Nat.reduceEqDiff]; rfl) ?_)); clear hK20
        refine V_condp rfl (fun c29a => ?_) (fun c29a => ?_)
        · skip
          refine V_sr T.mix (by kernel_rfl) (fun K21 hK21 => ?_)
          refine S_as rfl ?_
          refine S_nil (hK21 _ _ (V_keep [2] (by simp only [proj, lk, reduceIte, Nat.reduceEqDiff]; rfl) ?_)); clear hK21
          refine V_ret ?_
          refine hR _ _ (ret1 rfl rfl ?_)
          refine ⟨?_, rfl⟩
          congr 1
          unfold ccls
          repeat' split
          all_goals omega
        · skip
          refine V_sr T.mix (by kernel_rfl) (fun K22 hK22 => ?_)
          refine S_bin rfl rfl rfl ?_
          refine S_as rfl ?_
          refine S_nil (hK22 _ _ (V_keep [0, 3, 11] (by simp only [proj, lk, reduceIte, Nat.reduceEqDiff]; rfl) ?_)); clear hK22
          refine V_condp rfl (fun c31a => ?_) (fun c31a => ?_)
          · skip
            refine V_sr T.mix (by kernel_rfl) (fun K23 hK23 => ?_)
            refine S_as rfl ?_
            refine S_nil (hK23 _ _ (V_keep [2] (by simp only [proj, lk, reduceIte, Nat.reduceEqDiff]; rfl) ?_)); clear hK23
            refine V_ret ?_
            refine hR _ _ (ret1 rfl rfl ?_)
            refine ⟨?_, rfl⟩
            congr 1
            unfold ccls
            repeat' split
            all_goals omega
          · skip
            refine V_sr T.mix (by kernel_rfl) (fun K24 hK24 => ?_)
            refine S_bin rfl rfl rfl ?_
            refine S_as rfl ?_
            refine S_nil (hK24 _ _ (V_keep [0, 13] (by simp only [proj, lk, reduceIte, Nat.reduceEqDiff]; rfl) ?_)); clear hK24
            refine V_condp rfl (fun c33a => ?_) (fun c33a => ?_)
            · skip
              refine V_sr T.mix (by kernel_rfl) (fun K25 hK25 => ?_)
              refine S_as rfl ?_
              refine S_nil (hK25 _ _ (V_keep [2] (by simp only [proj, lk, reduceIte, Nat.reduceEqDiff]; rfl) ?_)); clear hK25
              refine V_ret ?_
              refine hR _ _ (ret1 rfl rfl ?_)
              refine ⟨?_, rfl⟩
              congr 1
              unfold ccls
              repeat' split
              all_goals omega
            · skip
              refine V_skipk [0] (by simp only [proj, lk, reduceIte, Nat.reduceEqDiff]; rfl) ?_
              refine hK2 _ _ ?_; clear hK2
              refine V_seq (fun K26 hK26 => ?_)
              refine V_sr T.mix (by kernel_rfl) (fun K27 hK27 => ?_)
              refine S_mv rfl ?_
              refine S_bin rfl rfl rfl ?_
              refine S_mv rfl ?_
              refine S_dec (fun g36a => ?_) (fun g36a => ?_)
              · skip
                refine S_gt rfl ?_
                refine S_mv rfl ?_
                refine S_gt rfl ?_
                refine S_bin rfl rfl rfl ?_
                refine S_pt rfl rfl ?_
                refine S_nil (hK27 _ _ (V_keep [20] (by simp only [proj, lk, reduceIte, Nat.reduceEqDiff]; rfl) ?_)); clear hK27
                refine V_condp rfl (fun c36a => ?_) (fun c36a => ?_)
                · skip
                  refine V_sr T.mix (by kernel_rfl) (fun K28 hK28 => ?_)
                  refine S_as rfl ?_
                  refine S_nil (hK28 _ _ (V_keep [2] (by simp only [proj, lk, reduceIte, Nat.reduceEqDiff]; rfl) ?_)); clear hK28
                  refine V_ret ?_
                  refine hR _ _ (ret1 rfl rfl ?_)
                  refine ⟨?_, rfl⟩
                  congr 1
                  unfold ccls
                  repeat' split
                  all_goals omega
                · skip
                  refine V_skipk [] (by simp only [proj, lk, reduceIte, Nat.reduceEqDiff]; rfl) ?_
                  refine hK26 _ _ ?_; clear hK26
                  refine V_sr T.mix (by kernel_rfl) (fun K29 hK29 => ?_)
                  refine S_as rfl ?_
                  refine S_nil (hK29 _ _ (V_keep [2] (by simp only [proj, lk, reduceIte, Nat.reduceEqDiff]; rfl) ?_)); clear hK29
                  refine V_ret ?_
                  refine hR _ _ (ret1 rfl rfl ?_)
                  refine ⟨?_, rfl⟩
                  congr 1
                  unfold ccls
                  repeat' split
                  all_goals omega
              · skip
                refine S_gf rfl ?_
                refine S_gf rfl ?_
                refine S_pf rfl rfl ?_
                refine S_nil (hK27 _ _ (V_keep [20] (by simp only [proj, lk, reduceIte, Nat.reduceEqDiff]; rfl) ?_)); clear hK27
                refine V_condf rfl ?_
                refine V_skipk [] (by simp only [proj, lk, reduceIte, Nat.reduceEqDiff]; rfl) ?_
                refine hK26 _ _ ?_; clear hK26
                refine V_sr T.mix (by kernel_rfl) (fun K30 hK30 => ?_)
                refine S_as rfl ?_
                refine S_nil (hK30 _ _ (V_keep [2] (by simp only [proj, lk, reduceIte, Nat.reduceEqDiff]; rfl) ?_)); clear hK30
                refine V_ret ?_
                refine hR _ _ (ret1 rfl rfl ?_)
                refine ⟨?_, rfl⟩
                congr 1
                unfold ccls
                repeat' split
                all_goals omega
    · skip
      refine V_sr T.mix (by kernel_rfl) (fun K31 hK31 => ?_)
      refine S_bin rfl rfl rfl ?_
      refine S_as rfl ?_
      refine S_nil (hK31 _ _ (V_keep [0, 3, 4] (by simp only [proj, lk, reduceIte, Nat.reduceEqDiff]; rfl) ?_)); clear hK31
      refine V_condp rfl (fun c27d => ?_) (fun c27d => ?_)
      · skip
        refine V_skipk [0, 3, 4] (by simp only [proj, lk, reduceIte, Nat.reduceEqDiff]; rfl) ?_
        refine hK4 _ _ ?_; clear hK4
        refine V_condp rfl (fun c27e => ?_) (fun c27e => ?_)
        · skip
          refine V_sr T.mix (by kernel_rfl) (fun K32 hK32 => ?_)
          refine S_as rfl ?_
          refine S_nil (hK32 _ _ (V_keep [2] (by simp only [proj, lk, reduceIte, Nat.reduceEqDiff]; rfl) ?_)); clear hK32
          refine V_ret ?_
          refine hR _ _ (ret1 rfl rfl ?_)
          refine ⟨?_, rfl⟩
          congr 1
          unfold ccls
          repeat' split
          all_goals omega
        · skip
          refine V_sr T.mix (by kernel_rfl) (fun K33 hK33 => ?_)
          refine S_bin rfl rfl rfl ?_
          refine S_as rfl ?_
          refine S_nil (hK33 _ _ (V_keep [0, 3, 9] (by simp only [proj, lk, reduceIte, Nat.reduceEqDiff]; rfl) ?_)); clear hK33
          refine V_condp rfl (fun c29b => ?_) (fun c29b => ?_)
          · skip
            refine V_sr T.mix (by kernel_rfl) (fun K34 hK34 => ?_)
            refine S_as rfl ?_
            refine S_nil (hK34 _ _ (V_keep [2] (by simp only [proj, lk, reduceIte, Nat.reduceEqDiff]; rfl) ?_)); clear hK34
            refine V_ret ?_
            refine hR _ _ (ret1 rfl rfl ?_)
            refine ⟨?_, rfl⟩
            congr 1
            unfold ccls
            repeat' split
            all_goals omega
          · skip
            refine V_sr T.mix (by kernel_rfl) (fun K35 hK35 => ?_)
            refine S_bin rfl rfl rfl ?_
            refine S_as rfl ?_
            refine S_nil (hK35 _ _ (V_keep [0, 3, 11] (by simp only [proj, lk, reduceIte, Nat.reduceEqDiff]; rfl) ?_)); clear hK35
            refine V_condp rfl (fun c31b => ?_) (fun c31b => ?_)
            · skip
              refine V_sr T.mix (by kernel_rfl) (fun K36 hK36 => ?_)
              refine S_as rfl ?_
              refine S_nil (hK36 _ _ (V_keep [2] (by simp only [proj, lk, reduceIte, Nat.reduceEqDiff]; rfl) ?_)); clear hK36
              refine V_ret ?_
              refine hR _ _ (ret1 rfl rfl ?_)
              refine ⟨?_, rfl⟩
              congr 1
              unfold ccls
              repeat' split
              all_goals omega
            · skip
              refine V_sr T.mix (by kernel_rfl) (fun K37 hK37 => ?_)
              refine S_bin rfl rfl rfl ?_
              refine S_as rfl ?_
              refine S_nil (hK37 _ _ (V_keep [0, 13] (by simp only [proj, lk, reduceIte, Nat.reduceEqDiff]; rfl) ?_)); clear hK37
              refine V_condp rfl (fun c33b => ?_) (fun c33b => ?_)
              · skip
                refine V_sr T.mix (by kernel_rfl) (fun K38 hK38 => ?_)
                refine S_as rfl ?_
                refine S_nil (hK38 _ _ (V_keep [2] (by simp only [proj, lk, reduceIte, Nat.reduceEqDiff]; rfl) ?_)); clear hK38
                refine V_ret ?_
                refine hR _ _ (ret1 rfl rfl ?_)
                refine ⟨?_, rfl⟩
                congr 1
                unfold ccls
                repeat' split
                all_goals omega
              · skip
                refine V_skipk [0] (by simp only [proj, lk, reduceIte, Nat.reduceEqDiff]; rfl) ?_
                refine hK2 _ _ ?_; clear hK2
                refine V_seq (fun K39 hK39 => ?_)
                refine V_sr T.mix (by kernel_rfl) (fun K40 hK40 => ?_)
                refine S_mv rfl ?_
                refine S_bin rfl rfl rfl ?_
                refine S_mv rfl ?_
                refine S_dec (fun g36b => ?_) (fun g36b => ?_)
                · skip
                  refine S_gt rfl ?_
                  refine S_mv rfl ?_
                  refine S_gt rfl ?_
                  refine S_bin rfl rfl rfl ?_
                  refine S_pt rfl rfl ?_
                  refine S_nil (hK40 _ _ (V_keep [20] (by simp only [proj, lk, reduceIte, Nat.reduceEqDiff]; rfl) ?_)); clear hK40
                  refine V_condp rfl (fun c36b => ?_) (fun c36b => ?_)
                  · skip
                    refine V_sr T.mix (by kernel_rfl) (fun K41 hK41 => ?_)
                    refine S_as rfl ?_
                    refine S_nil (hK41 _ _ (V_keep [2] (by simp only [proj, lk, reduceIte, Nat.reduceEqDiff]; rfl) ?_)); clear hK41
                    refine V_ret ?_
                    refine hR _ _ (ret1 rfl rfl ?_)
                    refine ⟨?_, rfl⟩
                    congr 1
                    unfold ccls
                    repeat' split
                    all_goals omega
                  · skip
                    refine V_skipk [] (by simp only [proj, lk, reduceIte, Nat.reduceEqDiff]; rfl) ?_
                    refine hK39 _ _ ?_; clear hK39
                    refine V_sr T.mix (by kernel_rfl) (fun K42 hK42 => ?_)
                    refine S_as rfl ?_
                    refine S_nil (hK42 _ _ (V_keep [2] (by simp only [proj, lk, reduceIte, Nat.reduceEqDiff]; rfl) ?_)); clear hK42
                    refine V_ret ?_
                    refine hR _ _ (ret1 rfl rfl ?_)
                    refine ⟨?_, rfl⟩
                    congr 1
                    unfold ccls
                    repeat' split
                    all_goals omega
                · skip
                  refine S_gf rfl ?_
                  refine S_gf rfl ?_
                  refine S_pf rfl rfl ?_
                  refine S_nil (hK40 _ _ (V_keep [20] (by simp only [proj, lk, reduceIte, Nat.reduceEqDiff]; rfl) ?_)); clear hK40
                  refine V_condf rfl ?_
                  refine V_skipk [] (by simp only [proj, lk, reduceIte, Nat.reduceEqDiff]; rfl) ?_
                  refine hK39 _ _ ?_; clear hK39
                  refine V_sr T.mix (by kernel_rfl) (fun K43 hK43 => ?_)
                  refine S_as rfl ?_
                  refine S_nil (hK43 _ _ (V_keep [2] (by simp only [proj, lk, reduceIte, Nat.reduceEqDiff]; rfl) ?_)); clear hK43
                  refine V_ret ?_
                  refine hR _ _ (ret1 rfl rfl ?_)
                  refine ⟨?_, rfl⟩
                  congr 1
                  unfold ccls
                  repeat' split
                  all_goals omega
      · skip
        refine V_reg T.mix (by kernel_rfl) ?_
        refine S_bin rfl rfl rfl ?_
        refine S_as rfl ?_
        refine S_nilk [0, 3, 4] (by simp only [proj, lk, reduceIte, Nat.reduceEqDiff]; rfl) ?_
        refine hK4 _ _ ?_; clear hK4
        refine V_condp rfl (fun c27f => ?_) (fun c27f => ?_)
        · skip
          refine V_sr T.mix (by kernel_rfl) (fun K44 hK44 => ?_)
          refine S_as rfl ?_
          refine S_nil (hK44 _ _ (V_keep [2] (by simp only [proj, lk, reduceIte, Nat.reduceEqDiff]; rfl) ?_)); clear hK44
          refine V_ret ?_
          refine hR _ _ (ret1 rfl rfl ?_)
          refine ⟨?_, rfl⟩
          congr 1
          unfold ccls
          repeat' split
          all_goals omega
        · skip
          refine V_sr T.mix (by kernel_rfl) (fun K45 hK45 => ?_)
          refine S_bin rfl rfl rfl ?_
          refine S_as rfl ?_
          refine S_nil (hK45 _ _ (V_keep [0, 3, 9] (by simp only [proj, lk, reduceIte, Nat.reduceEqDiff]; rfl) ?_)); clear hK45
          refine V_condp rfl (fun c29c => ?_) (fun c29c => ?_)
          · skip
            refine V_sr T.mix (by kernel_rfl) (fun K46 hK46 => ?_)
            refine S_as rfl ?_
            refine S_nil (hK46 _ _ (V_keep [2] (by simp only [proj, lk, reduceIte, Nat.reduceEqDiff]; rfl) ?_)); clear hK46
            refine V_ret ?_
            refine hR _ _ (ret1 rfl rfl ?_)
            refine ⟨?_, rfl⟩
            congr 1
            unfold ccls
            repeat' split
            all_goals omega
          · skip
            refine V_sr T.mix (by kernel_rfl) (fun K47 hK47 => ?_)
            refine S_bin rfl rfl rfl ?_
            refine S_as rfl ?_
            refine S_nil (hK47 _ _ (V_keep [0, 3, 11] (by simp only [proj, lk, reduceIte, Nat.reduceEqDiff]; rfl) ?_)); clear hK47
            refine V_condp rfl (fun c31c => ?_) (fun c31c => ?_)
            · skip
              refine V_sr T.mix (by kernel_rfl) (fun K48 hK48 => ?_)
              refine S_as rfl ?_
              refine S_nil (hK48 _ _ (V_keep [2] (by simp only [proj, lk, reduceIte, Nat.reduceEqDiff]; rfl) ?_)); clear hK48
              refine V_ret ?_
              refine hR _ _ (ret1 rfl rfl ?_)
              refine ⟨?_, rfl⟩
              congr 1
              unfold ccls
              repeat' split
              all_goals omega
            · skip
              refine V_sr T.mix (by kernel_rfl) (fun K49 hK49 => ?_)
              refine S_bin rfl rfl rfl ?_
              refine S_as rfl ?_
              refine S_nil (hK49 _ _ (V_keep [0, 13] (by simp only [proj, lk, reduceIte, Nat.reduceEqDiff]; rfl) ?_)); clear hK49
              refine V_condp rfl (fun c33c => ?_) (fun c33c => ?_)
              · skip
                refine V_sr T.mix (by kernel_rfl) (fun K50 hK50 => ?_)
                refine S_as rfl ?_
                refine S_nil (hK50 _ _ (V_keep [2] (by simp only [proj, lk, reduceIte, Nat.reduceEqDiff]; rfl) ?_)); clear hK50
                refine V_ret ?_
                refine hR _ _ (ret1 rfl rfl ?_)
                refine ⟨?_, rfl⟩
                congr 1
                unfold ccls
                repeat' split
                all_goals omega
              · skip
                refine V_skipk [0] (by simp only [proj, lk, reduceIte, Nat.reduceEqDiff]; rfl) ?_
                refine hK2 _ _ ?_; clear hK2
                refine V_seq (fun K51 hK51 => ?_)
                refine V_sr T.mix (by kernel_rfl) (fun K52 hK52 => ?_)
                refine S_mv rfl ?_
                refine S_bin rfl rfl rfl ?_
                refine S_mv rfl ?_
                refine S_dec (fun g36c => ?_) (fun g36c => ?_)
                · skip
                  refine S_gt rfl ?_
                  refine S_mv rfl ?_
                  refine S_gt rfl ?_
                  refine S_bin rfl rfl rfl ?_
                  refine S_pt rfl rfl ?_
                  refine S_nil (hK52 _ _ (V_keep [20] (by simp only [proj, lk, reduceIte, Nat.reduceEqDiff]; rfl) ?_)); clear hK52
                  refine V_condp rfl (fun c36c => ?_) (fun c36c => ?_)
                  · skip
                    refine V_sr T.mix (by kernel_rfl) (fun K53 hK53 => ?_)
                    refine S_as rfl ?_
                    refine S_nil (hK53 _ _ (V_keep [2] (by simp only [proj, lk, reduceIte, Nat.reduceEqDiff]; rfl) ?_)); clear hK53
                    refine V_ret ?_
                    refine hR _ _ (ret1 rfl rfl ?_)
                    refine ⟨?_, rfl⟩
                    congr 1
                    unfold ccls
                    repeat' split
                    all_goals omega
                  · skip
                    refine V_skipk [] (by simp only [proj, lk, reduceIte, Nat.reduceEqDiff]; rfl) ?_
                    refine hK51 _ _ ?_; clear hK51
                    refine V_sr T.mix (by kernel_rfl) (fun K54 hK54 => ?_)
                    refine S_as rfl ?_
                    refine S_nil (hK54 _ _ (V_keep [2] (by simp only [proj, lk, reduceIte, Nat.reduceEqDiff]; rfl) ?_)); clear hK54
                    refine V_ret ?_
                    refine hR _ _ (ret1 rfl rfl ?_)
                    refine ⟨?_, rfl⟩
                    congr 1
                    unfold ccls
                    repeat' split
                    all_goals omega
                · skip
                  refine S_gf rfl ?_
                  refine S_gf rfl ?_
                  refine S_pf rfl rfl ?_
                  refine S_nil (hK52 _ _ (V_keep [20] (by simp only [proj, lk, reduceIte, Nat.reduceEqDiff]; rfl) ?_)); clear hK52
                  refine V_condf rfl ?_
                  refine V_skipk [] (by simp only [proj, lk, reduceIte, Nat.reduceEqDiff]; rfl) ?_
                  refine hK51 _ _ ?_; clear hK51
                  refine V_sr T.mix (by kernel_rfl) (fun K55 hK55 => ?_)
                  refine S_as rfl ?_
                  refine S_nil (hK55 _ _ (V_keep [2] (by simp only [proj, lk, reduceIte, Nat.reduceEqDiff]; rfl) ?_)); clear hK55
                  refine V_ret ?_
                  refine hR _ _ (ret1 rfl rfl ?_)
                  refine ⟨?_, rfl⟩
                  congr 1
                  unfold ccls
                  repeat' split
                  all_goals omega
set_option maxHeartbeats 400000 in
theorem fail_spec (h : Heap) (X : Nat) (a : Option Addr) (cap : Nat) (p : PS) (hP : Par h X a cap p) (e i : Nat) :
    FC Tryz.prog 86 (#[.pointer (some ⟨X, 0, none⟩), .int .i64 e, .int .i64 i] : Array Value) h fun v h' => v = .tuple #[] ∧ ∃ a' cap', Par h' X a' cap' (failF p e i) ∧ PEx X h h' a a' := by
  refine FC_of [(0, .pointer (some ⟨X, 0, none⟩)), (1, .int .i64 e), (2, .int .i64 i)] Tryz.func86 rfl Tryz.ntmps86 (by simp) rfl (fun R hR => ?_)
  have hX := PEx.refl X h a
  refine V_reg T.mix (by kernel_rfl) ?_
  refine S_mv rfl ?_
  refine S_mv rfl ?_
  refine S_mv rfl ?_
  refine S_mv rfl ?_
  refine S_nc rfl ?_
  first | refine S_fa0 T.f100_9 rfl ?_ | refine S_fa T.f100_9 rfl ?_
  refine S_st T.sz54 rfl rfl rfl rfl (by simp (disch := omega) only [hP.ok]) ?_
  generalize hh : putH _ _ _ = h1
  replace hP : Par h1 X a cap { p with err := e } := by rw [← hh]; exact hP.put 9 _ rfl rfl (hP.bd)
  replace hX : PEx X h h1 a a := by rw [← hh]; exact hX.putH _ _
  clear hh
  refine S_nc rfl ?_
  first | refine S_fa0 T.f100_10 rfl ?_ | refine S_fa T.f100_10 rfl ?_
  refine S_st T.sz3 rfl rfl rfl rfl (by simp (disch := omega) only [hP.ok]) ?_
  generalize hh : putH _ _ _ = h2
  replace hP : Par h2 X a cap { p with err := e, loc := i } := by rw [← hh]; exact hP.put 10 _ rfl rfl (hP.bd)
  replace hX : PEx X h h2 a a := by rw [← hh]; exact hX.putH _ _
  clear hh
  refine S_nilk [] (by simp only [proj, lk, reduceIte, Nat.reduceEqDiff]; rfl) ?_
  -- end
  refine hR _ _ (ret0 rfl ?_)
  exact ⟨rfl, _, _, hP, hX⟩
set_option maxHeartbeats 400000 in
theorem begin_spec (h : Heap) (X : Nat) (a : Option Addr) (cap : Nat) (p : PS) (hP : Par h X a cap p) (c i : Nat) (hc : c < 256) :
    FC Tryz.prog 113 (#[.pointer (some ⟨X, 0, none⟩), .int .u8 c, .int .i64 (ccls c), .int .i64 i] : Array Value) h fun v h' => v = .tuple #[] ∧ ∃ a' cap', Par h' X a' cap' (beginF p c (ccls c) i) ∧ PEx X h h' a a' := by
  refine FC_of [(0, .pointer (some ⟨X, 0, none⟩)), (1, .int .u8 c), (2, .int .i64 (ccls c)), (3, .int .i64 i)] Tryz.func113 rfl Tryz.ntmps113 (by simp) rfl (fun R hR => ?_)
  have hX := PEx.refl X h a
  refine V_sr T.mix (by kernel_rfl) (fun K1 hK1 => ?_)
  refine S_mv rfl ?_
  refine S_mv rfl ?_
  refine S_nc rfl ?_
  first | refine S_fa0 T.f100_2 rfl ?_ | refine S_fa T.f100_2 rfl ?_
  refine S_st T.sz3 rfl rfl rfl rfl (by simp (disch := omega) only [hP.ok]) ?_
  generalize hh : putH _ _ _ = h1
  replace hP : Par h1 X a cap { p with start := i } := by rw [← hh]; exact hP.put 2 _ rfl rfl (hP.bd)
  replace hX : PEx X h h1 a a := by rw [← hh]; exact hX.putH _ _
  clear hh
  refine S_nil (hK1 _ _ (V_keep [0, 1, 2, 3] (by simp only [proj, lk, reduceIte, Nat.reduceEqDiff]; rfl) ?_)); clear hK1
  refine V_sr T.mix (by kernel_rfl) (fun K2 hK2 => ?_)
  refine S_mv rfl ?_
  refine S_nil (hK2 _ _ (V_keep [0, 1, 3, 12] (by simp only [proj, lk, reduceIte, Nat.reduceEqDiff]; rfl) ?_)); clear hK2
  refine V_block ?_
  refine V_sr T.mix (by kernel_rfl) (fun K3 hK3 => ?_)
  refine S_bin rfl rfl rfl ?_
  refine S_as rfl ?_
  refine S_nil (hK3 _ _ (V_keep [0, 1, 3, 12, 13] (by simp only [proj, lk, reduceIte, Nat.reduceEqDiff]; rfl) ?_)); clear hK3
  refine V_condp rfl (fun c91 => ?_) (fun c91 => ?_)
  · skip
    refine V_reg T.mix (by kernel_rfl) ?_
    refine S_mv rfl ?_
    refine S_nc rfl ?_
    first | refine S_fa0 T.f100_1 rfl ?_ | refine S_fa T.f100_1 rfl ?_
    refine S_st T.sz3 rfl rfl rfl rfl (by simp (disch := omega) only [hP.ok]) ?_
    generalize hh : putH _ _ _ = h2
    replace hP : Par h2 X a cap { p with start := i, state := 1 } := by rw [← hh]; exact hP.put 1 _ rfl rfl (hP.bd)
    replace hX : PEx X h h2 a a := by rw [← hh]; exact hX.putH _ _
    clear hh
    refine S_nilk [] (by simp only [proj, lk, reduceIte, Nat.reduceEqDiff]; rfl) ?_
    -- end
    refine hR _ _ (ret0 rfl ?_)
    refine ⟨rfl, _, _, hP.eq ?_, hX⟩
    clear hP hX hR
    unfold beginF
    try simp only []
    repeat (first | rw [if_pos (by omega)] | rw [if_neg (by omega)])
    all_goals (first | rfl | (split <;> first | rfl | (exfalso; simp_all; done)))
  · skip
    refine V_sr T.mix (by kernel_rfl) (fun K4 hK4 => ?_)
    refine S_bin rfl rfl rfl ?_
    refine S_as rfl ?_
    refine S_nil (hK4 _ _ (V_keep [0, 1, 3, 12, 18] (by simp only [proj, lk, reduceIte, Nat.reduceEqDiff]; rfl) ?_)); clear hK4
    refine V_condp rfl (fun c93 => ?_) (fun c93 => ?_)
    · skip
      refine V_sr T.mix (by kernel_rfl) (fun K5 hK5 => ?_)
      refine S_mv rfl ?_
      refine S_nc rfl ?_
      first | refine S_fa0 T.f100_8 rfl ?_ | refine S_fa T.f100_8 rfl ?_
      refine S_ldK T.ag4 rfl (fun K' hK' => ?_)
      simp (disch := omega) only [hP.c0, hP.c1, hP.c2, hP.c3, hP.c4, hP.c5, hP.c6, hP.c7, hP.c8, hP.c9, hP.c10, oP_some, Nat.add_zero]
      refine hK' _ ?_; clear hK' K'
      refine S_nil (hK5 _ _ (V_keep [0, 3, 23] (by simp only [proj, lk, reduceIte, Nat.reduceEqDiff]; rfl) ?_)); clear hK5
      refine V_condb rfl (fun c94 => ?_) (fun c94 => ?_)
      · skip
        refine V_reg T.mix (by kernel_rfl) ?_
        refine S_mv rfl ?_
        refine S_mv rfl ?_
        refine S_call T.hb86 rfl ?_
        refine FC.mono (fail_spec h1 X _ _ _ hP 2 i) ?_
        rintro v h2 ⟨rfl, a2, cap2, hP2, hX2⟩
        replace hP := hP2
        replace hX := hX.trans hX2
        refine S_nilk [] (by simp only [proj, lk, reduceIte, Nat.reduceEqDiff]; rfl) ?_
        -- end
        refine hR _ _ (ret0 rfl ?_)
        refine ⟨rfl, _, _, hP.eq ?_, hX⟩
        clear hP hX hR
        unfold beginF
        try simp only []
        repeat (first | rw [if_pos (by omega)] | rw [if_neg (by omega)])
        all_goals (first | rfl | (split <;> first | rfl | (exfalso; simp_all; done)))
      · skip
        refine V_sr T.mix (by kernel_rfl) (fun K6 hK6 => ?_)
        refine S_mv rfl ?_
        refine S_nc rfl ?_
        first | refine S_fa0 T.f100_1 rfl ?_ | refine S_fa T.f100_1 rfl ?_
        refine S_st T.sz3 rfl rfl rfl rfl (by simp (disch := omega) only [hP.ok]) ?_
        generalize hh : putH _ _ _ = h2
        replace hP : Par h2 X a cap { p with start := i, state := 4 } := by rw [← hh]; exact hP.put 1 _ rfl rfl (hP.bd)
        replace hX : PEx X h h2 a a := by rw [← hh]; exact hX.putH _ _
        clear hh
        refine S_nil (hK6 _ _ (V_keep [0] (by simp only [proj, lk, reduceIte, Nat.reduceEqDiff]; rfl) ?_)); clear hK6
        refine V_reg T.mix (by kernel_rfl) ?_
        refine S_mv rfl ?_
        refine S_mv rfl ?_
        refine S_nc rfl ?_
        first | refine S_fa0 T.f100_7 rfl ?_ | refine S_fa T.f100_7 rfl ?_
        refine S_st T.sz4 rfl rfl rfl rfl (by simp (disch := omega) only [hP.ok]) ?_
        generalize hh : putH _ _ _ = h3
        replace hP : Par h3 X a cap { p with start := i, state := 4, del := true } := by rw [← hh]; exact hP.put 7 _ rfl rfl (hP.bd)
        replace hX : PEx X h h3 a a := by rw [← hh]; exact hX.putH _ _
        clear hh
        refine S_nc rfl ?_
        first | refine S_fa0 T.f100_8 rfl ?_ | refine S_fa T.f100_8 rfl ?_
        refine S_st T.sz4 rfl rfl rfl rfl (by simp (disch := omega) only [hP.ok]) ?_
        generalize hh : putH _ _ _ = h4
        replace hP : Par h4 X a cap { p with start := i, state := 4, del := true, opn := true } := by rw [← hh]; exact hP.put 8 _ rfl rfl (hP.bd)
        replace hX : PEx X h h4 a a := by rw [← hh]; exact hX.putH _ _
        clear hh
        refine S_nilk [] (by simp only [proj, lk, reduceIte, Nat.reduceEqDiff]; rfl) ?_
        -- end
        refine hR _ _ (ret0 rfl ?_)
        refine ⟨rfl, _, _, hP.eq ?_, hX⟩
        clear hP hX hR
        unfold beginF
        try simp only []
        repeat (first | rw [if_pos (by omega)] | rw [if_neg (by omega)])
        all_goals (first | rfl | (split <;> first | rfl | (exfalso; simp_all; done)))
    · skip
      refine V_sr T.mix (by kernel_rfl) (fun K7 hK7 => ?_)
      refine S_bin rfl rfl rfl ?_
      refine S_as rfl ?_
      refine S_nil (hK7 _ _ (V_keep [0, 1, 3, 12, 36] (by simp only [proj, lk, reduceIte, Nat.reduceEqDiff]; rfl) ?_)); clear hK7
      refine V_condp rfl (fun c100 => ?_) (fun c100 => ?_)
      · skip
        refine V_sr T.mix (by kernel_rfl) (fun K8 hK8 => ?_)
        refine S_mv rfl ?_
        refine S_nc rfl ?_
        first | refine S_fa0 T.f100_1 rfl ?_ | refine S_fa T.f100_1 rfl ?_
        refine S_st T.sz3 rfl rfl rfl rfl (by simp (disch := omega) only [hP.ok]) ?_
        generalize hh : putH _ _ _ = h2
        replace hP : Par h2 X a cap { p with start := i, state := 2 } := by rw [← hh]; exact hP.put 1 _ rfl rfl (hP.bd)
        replace hX : PEx X h h2 a a := by rw [← hh]; exact hX.putH _ _
        clear hh
        refine S_nil (hK8 _ _ (V_keep [0] (by simp only [proj, lk, reduceIte, Nat.reduceEqDiff]; rfl) ?_)); clear hK8
        refine V_reg T.mix (by kernel_rfl) ?_
        refine S_mv rfl ?_
        refine S_mv rfl ?_
        refine S_nc rfl ?_
        first | refine S_fa0 T.f100_3 rfl ?_ | refine S_fa T.f100_3 rfl ?_
        refine S_st T.sz4 rfl rfl rfl rfl (by simp (disch := omega) only [hP.ok]) ?_
        generalize hh : putH _ _ _ = h3
        replace hP : Par h3 X a cap { p with start := i, state := 2, minus := true } := by rw [← hh]; exact hP.put 3 _ rfl rfl (hP.bd)
        replace hX : PEx X h h3 a a := by rw [← hh]; exact hX.putH _ _
        clear hh
        refine S_nc rfl ?_
        first | refine S_fa0 T.f100_4 rfl ?_ | refine S_fa T.f100_4 rfl ?_
        refine S_st T.sz3 rfl rfl rfl rfl (by simp (disch := omega) only [hP.ok]) ?_
        generalize hh : putH _ _ _ = h4
        replace hP : Par h4 X a cap { p with start := i, state := 2, minus := true, val := 0 } := by rw [← hh]; exact hP.put 4 _ rfl rfl (⟨by simp, hP.bd.2⟩)
        replace hX : PEx X h h4 a a := by rw [← hh]; exact hX.putH _ _
        clear hh
        refine S_nilk [] (by simp only [proj, lk, reduceIte, Nat.reduceEqDiff]; rfl) ?_
        -- end
        refine hR _ _ (ret0 rfl ?_)
        refine ⟨rfl, _, _, hP.eq ?_, hX⟩
        clear hP hX hR
        unfold beginF
        try simp only []
        repeat (first | rw [if_pos (by omega)] | rw [if_neg (by omega)])
        all_goals (first | rfl | (split <;> first | rfl | (exfalso; simp_all; done)))
      · skip
        refine V_sr T.mix (by kernel_rfl) (fun K9 hK9 => ?_)
        refine S_bin rfl rfl rfl ?_
        refine S_as rfl ?_
        refine S_nil (hK9 _ _ (V_keep [0, 1, 3, 12, 47] (by simp only [proj, lk, reduceIte, Nat.reduceEqDiff]; rfl) ?_)); clear hK9
        refine V_condp rfl (fun c103 => ?_) (fun c103 => ?_)
        · skip
          have hdg : dig c := cls_dig.1 (by omega)
          unfold dig at hdg
          refine V_sr T.mix (by kernel_rfl) (fun K10 hK10 => ?_)
          refine S_mv rfl ?_
          refine S_nc rfl ?_
          first | refine S_fa0 T.f100_1 rfl ?_ | refine S_fa T.f100_1 rfl ?_
          refine S_st T.sz3 rfl rfl rfl rfl (by simp (disch := omega) only [hP.ok]) ?_
          generalize hh : putH _ _ _ = h2
          replace hP : Par h2 X a cap { p with start := i, state := 3 } := by rw [← hh]; exact hP.put 1 _ rfl rfl (hP.bd)
          replace hX : PEx X h h2 a a := by rw [← hh]; exact hX.putH _ _
          clear hh
          refine S_nil (hK10 _ _ (V_keep [0, 1] (by simp only [proj, lk, reduceIte, Nat.reduceEqDiff]; rfl) ?_)); clear hK10
          refine V_reg T.mix (by kernel_rfl) ?_
          refine S_mv rfl ?_
          refine S_mv rfl ?_
          refine S_mv rfl ?_
          refine S_bin rfl rfl rfl ?_
          rw [wrap_u8 (by omega) (by omega), show ((c : Int) - 48) = ((c - 48 : Nat) : Int) by omega]
          first | refine S_cvi T.us5 T.in3 rfl (by omega) (by omega) ?_ | refine S_cv T.us5 T.in3 rfl ?_
          refine S_nc rfl ?_
          first | refine S_fa0 T.f100_3 rfl ?_ | refine S_fa T.f100_3 rfl ?_
          refine S_st T.sz4 rfl rfl rfl rfl (by simp (disch := omega) only [hP.ok]) ?_
          generalize hh : putH _ _ _ = h3
          replace hP : Par h3 X a cap { p with start := i, state := 3, minus := false } := by rw [← hh]; exact hP.put 3 _ rfl rfl (hP.bd)
          replace hX : PEx X h h3 a a := by rw [← hh]; exact hX.putH _ _
          clear hh
          refine S_nc rfl ?_
          first | refine S_fa0 T.f100_4 rfl ?_ | refine S_fa T.f100_4 rfl ?_
          refine S_st T.sz3 rfl rfl rfl rfl (by simp (disch := omega) only [hP.ok]) ?_
          generalize hh : putH _ _ _ = h4
          replace hP : Par h4 X a cap { p with start := i, state := 3, minus := false, val := c - 48 } := by rw [← hh]; exact hP.put 4 _ rfl rfl (⟨by simp only []; omega, hP.bd.2⟩)
          replace hX : PEx X h h4 a a := by rw [← hh]; exact hX.putH _ _
          clear hh
          refine S_nilk [] (by simp only [proj, lk, reduceIte, Nat.reduceEqDiff]; rfl) ?_
          -- end
          refine hR _ _ (ret0 rfl ?_)
          refine ⟨rfl, _, _, hP.eq ?_, hX⟩
          clear hP hX hR
          unfold beginF
          try simp only []
          repeat (first | rw [if_pos (by omega)] | rw [if_neg (by omega)])
          all_goals (first | rfl | (split <;> first | rfl | (exfalso; simp_all; done)))
        · skip
          refine V_sr T.mix (by kernel_rfl) (fun K11 hK11 => ?_)
          refine S_bin rfl rfl rfl ?_
          refine S_as rfl ?_
          refine S_nil (hK11 _ _ (V_keep [0, 3, 61] (by simp only [proj, lk, reduceIte, Nat.reduceEqDiff]; rfl) ?_)); clear hK11
          refine V_condp rfl (fun c106 => ?_) (fun c106 => ?_)
          · skip
            refine V_reg T.mix (by kernel_rfl) ?_
            refine S_mv rfl ?_
            refine S_mv rfl ?_
            refine S_call T.hb86 rfl ?_
            refine FC.mono (fail_spec h1 X _ _ _ hP 2 i) ?_
            rintro v h2 ⟨rfl, a2, cap2, hP2, hX2⟩
            replace hP := hP2
            replace hX := hX.trans hX2
            refine S_nilk [] (by simp only [proj, lk, reduceIte, Nat.reduceEqDiff]; rfl) ?_
            -- end
            refine hR _ _ (ret0 rfl ?_)
            refine ⟨rfl, _, _, hP.eq ?_, hX⟩
            clear hP hX hR
            unfold beginF
            try simp only []
            repeat (first | rw [if_pos (by omega)] | rw [if_neg (by omega)])
            all_goals (first | rfl | (split <;> first | rfl | (exfalso; simp_all; done)))
          · skip
            refine V_skipk [] (by simp only [proj, lk, reduceIte, Nat.reduceEqDiff]; rfl) ?_
            -- end
            refine hR _ _ (ret0 rfl ?_)
            refine ⟨rfl, _, _, hP.eq ?_, hX⟩
            clear hP hX hR
            unfold beginF
            try simp only []
            repeat (first | rw [if_pos (by omega)] | rw [if_neg (by omega)])
            all_goals (first | rfl | (split <;> first | rfl | (exfalso; simp_all; done)))
set_option maxHeartbeats 400000 in
theorem endrow_spec (h : Heap) (X : Nat) (a : Option Addr) (cap : Nat) (p : PS) (hP : Par h X a cap p) (hal : p.arena.length ≤ 1000000000) :
    FC Tryz.prog 136 (#[.pointer (some ⟨X, 0, none⟩)] : Array Value) h fun v h' => v = .tuple #[] ∧ ∃ a' cap', Par h' X a' cap' (endRowF p) ∧ PEx X h h' a a' := by
  refine FC_of [(0, .pointer (some ⟨X, 0, none⟩))] Tryz.func136 rfl Tryz.ntmps136 (by simp) rfl (fun R hR => ?_)
  have hX := PEx.refl X h a
  have hbd := hP.bd
  refine V_seqJ (fun l h' => ∃ (h5 : Heap) (a5 : Option Addr) (c5 : Nat) (r : List Int), (Par h5 X a5 c5 { p with arena := r }) ∧ (PEx X h h5 a a5) ∧ (r = if p.pos &&& p.neg = 0 then p.arena ++ rowL p.del p.pos p.neg else p.arena) ∧ l = [(0, .pointer (some ⟨X, 0, none⟩))] ∧ h5 = h') ?_ ?_
  · skip
    refine V_sr T.mix (by kernel_rfl) (fun K2 hK2 => ?_)
    refine S_mv rfl ?_
    refine S_nc rfl ?_
    first | refine S_fa0 T.f100_5 rfl ?_ | refine S_fa T.f100_5 rfl ?_
    refine S_ldK T.ag51 rfl (fun K' hK' => ?_)
    simp (disch := omega) only [hP.c0, hP.c1, hP.c2, hP.c3, hP.c4, hP.c5, hP.c6, hP.c7, hP.c8, hP.c9, hP.c10, oP_some, Nat.add_zero]
    refine hK' _ ?_; clear hK' K'
    refine S_mv rfl ?_
    refine S_nc rfl ?_
    first | refine S_fa0 T.f100_6 rfl ?_ | refine S_fa T.f100_6 rfl ?_
    refine S_ldK T.ag51 rfl (fun K' hK' => ?_)
    simp (disch := omega) only [hP.c0, hP.c1, hP.c2, hP.c3, hP.c4, hP.c5, hP.c6, hP.c7, hP.c8, hP.c9, hP.c10, oP_some, Nat.add_zero]
    refine hK' _ ?_; clear hK' K'
    first | refine S_uand rfl rfl rfl (by first | omega | (simp only [IntKind.bits]; omega)) (by first | omega | (simp only [IntKind.bits]; omega)) ?_ | refine S_bin rfl rfl rfl ?_
    refine S_bin rfl rfl rfl ?_
    refine S_nil (hK2 _ _ (V_keep [0, 13] (by simp only [proj, lk, reduceIte, Nat.reduceEqDiff]; rfl) ?_)); clear hK2
    refine V_condp rfl (fun c135 => ?_) (fun c135 => ?_)
    · skip
      refine V_seqJ (fun l h' => ∃ (h8 : Heap) (a8 : Option Addr) (c8 : Nat), (Par h8 X a8 c8 { p with arena := p.arena ++ (if p.del then [13] else []) }) ∧ (PEx X h h8 a a8) ∧ l = [(0, .pointer (some ⟨X, 0, none⟩))] ∧ h8 = h') ?_ ?_
      · skip
        refine V_sr T.mix (by kernel_rfl) (fun K4 hK4 => ?_)
        refine S_mv rfl ?_
        refine S_nc rfl ?_
        first | refine S_fa0 T.f100_7 rfl ?_ | refine S_fa T.f100_7 rfl ?_
        refine S_ldK T.ag4 rfl (fun K' hK' => ?_)
        simp (disch := omega) only [hP.c0, hP.c1, hP.c2, hP.c3, hP.c4, hP.c5, hP.c6, hP.c7, hP.c8, hP.c9, hP.c10, oP_some, Nat.add_zero]
        refine hK' _ ?_; clear hK' K'
        refine S_nil (hK4 _ _ (V_keep [0, 17] (by simp only [proj, lk, reduceIte, Nat.reduceEqDiff]; rfl) ?_)); clear hK4
        refine V_condb rfl (fun c136 => ?_) (fun c136 => ?_)
        · skip
          refine V_reg T.mix (by kernel_rfl) ?_
          refine S_mv rfl ?_
          refine S_mv rfl ?_
          refine S_nc rfl ?_
          first | refine S_fa0 T.f100_0 rfl ?_ | refine S_fa T.f100_0 rfl ?_
          refine S_ldK T.ag49 rfl (fun K' hK' => ?_)
          simp (disch := omega) only [hP.c0, hP.c1, hP.c2, hP.c3, hP.c4, hP.c5, hP.c6, hP.c7, hP.c8, hP.c9, hP.c10, oP_some, Nat.add_zero]
          refine hK' _ ?_; clear hK' K'
          refine S_bs T.ei49 rfl (by decide) (by decide) (T.bs49_1_0 _) ?_
          have hPs := hP
          refine S_appx T.ei49 T.ni49 T.us49 rfl rfl rfl (OwnR.ext hP.ar (Ext.push (fun _ => False) _ _) (fun _ _ f => f)) (Nat.zero_le _) (cellsH_new _ _ _) rfl (by first | omega | (simp only [List.length_append]; omega)) (by decide) (by decide) rfl (fun a1 cap1 h1 ho1 hE1 hb1 => ?_)
          have hI1 : IL h1 a1 cap1 ((p).arena ++ [13]) := by unfold IL; rw [ints_snoc, List.length_append]; exact ho1
          have hO1 : OWNED h h1 a a1 := ⟨(Ext.push (fun b => blkA a = some b) h _).trans hE1, fun b hb => by rcases hb1 with e | e; (rw [e] at hb; exact .inl hb); (rw [e] at hb; simp at hb; exact .inr (by omega))⟩
          have hS1 : B h1 X (pcells a cap (p)) 100 := hP.s.ext hO1.1 hP.n
          have hS1ok : okPut h1 ⟨X, 0, none⟩ = true := hS1.ok (by simp [pcells])
          have hN1 : blkA a1 ≠ some X := fun e => by rcases hO1.2 X e with e | e; (exact hP.n e); (have := hP.s.lt; omega)
          refine S_nc rfl ?_
          first | refine S_fa0 T.f100_0 rfl ?_ | refine S_fa T.f100_0 rfl ?_
          refine S_st T.sz49 rfl rfl rfl rfl (by simp (disch := omega) only [hS1ok]) ?_
          generalize hh : putH h1 _ _ = h2
          have hP9 : Par h2 X a1 cap1 { (p) with arena := (p).arena ++ [13] } := by rw [← hh]; have hh2 := Par.arena hS1 hI1 hN1 hP.bd; rw [List.length_append] at hh2; exact hh2
          have hX9 : PEx X h h2 a a1 := by rw [← hh]; exact (hX.own hO1).putH _ _
          clear hh hS1 hI1 hN1 hO1 ho1 hE1 hb1 hP hX
          have hP := hP9
          have hX := hX9
          refine S_nilk [0] (by simp only [proj, lk, reduceIte, Nat.reduceEqDiff]; rfl) ?_
          exact ⟨h2, a1, cap1, hP.eq (by rw [if_pos (by simpa using c136)]), hX, rfl, rfl⟩
        · skip
          refine V_skipk [0] (by simp only [proj, lk, reduceIte, Nat.reduceEqDiff]; rfl) ?_
          exact ⟨h, a, cap, hP.eq (by rw [if_neg (by simpa using c136)]; simp), hX, rfl, rfl⟩
      rintro l h' ⟨h8, a8, c8, hP, hX, rfl, rfl⟩
      refine V_seq (fun K5 hK5 => ?_)
      refine V_sr T.mix (by kernel_rfl) (fun K6 hK6 => ?_)
      refine S_as rfl ?_
      refine S_nil (hK6 _ _ (V_keep [0, 2] (by simp only [proj, lk, reduceIte, Nat.reduceEqDiff]; rfl) ?_)); clear hK6
      refine V_block ?_
      refine V_loop (fun m l h' => ∃ (v : Nat) (hk : Heap) (ak : Option Addr) (ck : Nat), (1 ≤ v) ∧ (v ≤ 13) ∧ (Par hk X ak ck { p with arena := p.arena ++ ((if p.del then [13] else []) ++ litsTo p.pos p.neg (v - 1)) }) ∧ (PEx X h hk a ak) ∧ m = 13 - v ∧ l = [(0, .pointer (some ⟨X, 0, none⟩)), (2, .int .i64 v)] ∧ hk = h') _ ⟨1, _, _, _, by omega, by omega, hP.eq (by simp [litsTo]), hX, rfl, rfl, rfl⟩ ?_
      rintro m l h' ⟨v, hk, ak, ck, hv1, hv2, hP, hX, rfl, rfl, rfl⟩ K7 hK7
      refine V_seq (fun K8 hK8 => ?_)
      refine V_sr T.mix (by kernel_rfl) (fun K9 hK9 => ?_)
      refine S_mv rfl ?_
      refine S_bin rfl rfl rfl ?_
      refine S_nil (hK9 _ _ (V_keep [0, 2, 28] (by simp only [proj, lk, reduceIte, Nat.reduceEqDiff]; rfl) ?_)); clear hK9
      refine V_condp rfl (fun c139 => ?_) (fun c139 => ?_)
      · skip
        have hpw : 2 ^ v ≤ 2 ^ 12 := Nat.pow_le_pow_right (by omega) (by omega)
        have hlt := litsTo_len p.pos p.neg (v - 1)
        have hdl : (if p.del then [(13 : Int)] else []).length ≤ 1 := by split <;> simp
        have hpb := and_bit p.pos v
        have hnb := and_bit p.neg v
        have hpl : (if p.pos.testBit v then [(v : Int)] else []).length ≤ 1 := by split <;> simp
        refine V_skipk [0, 2] (by simp only [proj, lk, reduceIte, Nat.reduceEqDiff]; rfl) ?_
        refine hK8 _ _ ?_; clear hK8
        refine V_seq (fun K10 hK10 => ?_)
        refine V_block ?_
        refine V_sr T.mix (by kernel_rfl) (fun K11 hK11 => ?_)
        refine S_mv rfl ?_
        first | refine S_cvn T.us3 T.in57 rfl rfl (by first | omega | (simp only [IntKind.bits]; omega)) ?_ | refine S_cvu T.us3 T.in57 rfl (by omega) (by omega) ?_ | refine S_cv T.us3 T.in57 rfl ?_
        first | refine S_bit rfl rfl rfl (by first | omega | (simp only [IntKind.bits]; omega)) ?_ | refine S_bin rfl rfl rfl ?_
        refine S_as rfl ?_
        refine S_nil (hK11 _ _ (V_keep [0, 2, 3] (by simp only [proj, lk, reduceIte, Nat.reduceEqDiff]; rfl) ?_)); clear hK11
        refine V_seqJ (fun l h' => ∃ (hj : Heap) (aj : Option Addr) (cj : Nat), (Par hj X aj cj { p with arena := p.arena ++ ((if p.del then [13] else []) ++ (litsTo p.pos p.neg (v - 1) ++ (if p.pos.testBit v then [(v : Int)] else []))) }) ∧ (PEx X h hj a aj) ∧ l = [(0, .pointer (some ⟨X, 0, none⟩)), (2, .int .i64 v), (3, .int .u16 ((2 ^ v : Nat) : Int))] ∧ hj = h') ?_ ?_
        · skip
          refine V_sr T.mix (by kernel_rfl) (fun K13 hK13 => ?_)
          refine S_mv rfl ?_
          refine S_nc rfl ?_
          first | refine S_fa0 T.f100_5 rfl ?_ | refine S_fa T.f100_5 rfl ?_
          refine S_ldK T.ag51 rfl (fun K' hK' => ?_)
          simp (disch := omega) only [hP.c0, hP.c1, hP.c2, hP.c3, hP.c4, hP.c5, hP.c6, hP.c7, hP.c8, hP.c9, hP.c10, oP_some, Nat.add_zero]
          refine hK' _ ?_; clear hK' K'
          refine S_mv rfl ?_
          first | refine S_uand rfl rfl rfl (by first | omega | (simp only [IntKind.bits]; omega)) (by first | omega | (simp only [IntKind.bits]; omega)) ?_ | refine S_bin rfl rfl rfl ?_
          refine S_bin rfl rfl rfl ?_
          refine S_nil (hK13 _ _ (V_keep [0, 2, 3, 40] (by simp only [proj, lk, reduceIte, Nat.reduceEqDiff]; rfl) ?_)); clear hK13
          refine V_condp rfl (fun c141 => ?_) (fun c141 => ?_)
          · skip
            refine V_reg T.mix (by kernel_rfl) ?_
            refine S_mv rfl ?_
            refine S_mv rfl ?_
            refine S_nc rfl ?_
            first | refine S_fa0 T.f100_0 rfl ?_ | refine S_fa T.f100_0 rfl ?_
            refine S_ldK T.ag49 rfl (fun K' hK' => ?_)
            simp (disch := omega) only [hP.c0, hP.c1, hP.c2, hP.c3, hP.c4, hP.c5, hP.c6, hP.c7, hP.c8, hP.c9, hP.c10, oP_some, Nat.add_zero]
            refine hK' _ ?_; clear hK' K'
            refine S_mv rfl ?_
            refine S_bs T.ei49 rfl (by decide) (by decide) (T.bs49_1_0 _) ?_
            have hPs := hP
            refine S_appx T.ei49 T.ni49 T.us49 rfl rfl rfl (OwnR.ext hP.ar (Ext.push (fun _ => False) _ _) (fun _ _ f => f)) (Nat.zero_le _) (cellsH_new _ _ _) rfl (by first | omega | (simp only [List.length_append]; omega)) (by decide) (by decide) rfl (fun a1 cap1 h1 ho1 hE1 hb1 => ?_)
            have hI1 : IL h1 a1 cap1 (({ p with arena := p.arena ++ ((if p.del then [13] else []) ++ litsTo p.pos p.neg (v - 1)) }).arena ++ [(v : Int)]) := by unfold IL; rw [ints_snoc, List.length_append]; exact ho1
            have hO1 : OWNED hk h1 ak a1 := ⟨(Ext.push (fun b => blkA ak = some b) hk _).trans hE1, fun b hb => by rcases hb1 with e | e; (rw [e] at hb; exact .inl hb); (rw [e] at hb; simp at hb; exact .inr (by omega))⟩
            have hS1 : B h1 X (pcells ak ck ({ p with arena := p.arena ++ ((if p.del then [13] else []) ++ litsTo p.pos p.neg (v - 1)) })) 100 := hP.s.ext hO1.1 hP.n
            have hS1ok : okPut h1 ⟨X, 0, none⟩ = true := hS1.ok (by simp [pcells])
            have hN1 : blkA a1 ≠ some X := fun e => by rcases hO1.2 X e with e | e; (exact hP.n e); (have := hP.s.lt; omega)
            refine S_nc rfl ?_
            first | refine S_fa0 T.f100_0 rfl ?_ | refine S_fa T.f100_0 rfl ?_
            refine S_st T.sz49 rfl rfl rfl rfl (by simp (disch := omega) only [hS1ok]) ?_
            generalize hh : putH h1 _ _ = h2
            have hP9 : Par h2 X a1 cap1 { ({ p with arena := p.arena ++ ((if p.del then [13] else []) ++ litsTo p.pos p.neg (v - 1)) }) with arena := ({ p with arena := p.arena ++ ((if p.del then [13] else []) ++ litsTo p.pos p.neg (v - 1)) }).arena ++ [(v : Int)] } := by rw [← hh]; have hh2 := Par.arena hS1 hI1 hN1 hP.bd; rw [List.length_append] at hh2; exact hh2
            have hX9 : PEx X h h2 a a1 := by rw [← hh]; exact (hX.own hO1).putH _ _
            clear hh hS1 hI1 hN1 hO1 ho1 hE1 hb1 hP hX
            have hP := hP9
            have hX := hX9
            refine S_nilk [0, 2, 3] (by simp only [proj, lk, reduceIte, Nat.reduceEqDiff]; rfl) ?_
            exact ⟨h2, a1, cap1, hP.eq (by rw [tbT c141]; simp), hX, rfl, rfl⟩
          · skip
            refine V_skipk [0, 2, 3] (by simp only [proj, lk, reduceIte, Nat.reduceEqDiff]; rfl) ?_
            exact ⟨hk, ak, ck, hP.eq (by rw [tbF c141]; simp), hX, rfl, rfl⟩
        rintro l h' ⟨hj, aj, cj, hP, hX, rfl, rfl⟩
        refine V_sr T.mix (by kernel_rfl) (fun K14 hK14 => ?_)
        refine S_mv rfl ?_
        refine S_nc rfl ?_
        first | refine S_fa0 T.f100_6 rfl ?_ | refine S_fa T.f100_6 rfl ?_
        refine S_ldK T.ag51 rfl (fun K' hK' => ?_)
        simp (disch := omega) only [hP.c0, hP.c1, hP.c2, hP.c3, hP.c4, hP.c5, hP.c6, hP.c7, hP.c8, hP.c9, hP.c10, oP_some, Nat.add_zero]
        refine hK' _ ?_; clear hK' K'
        refine S_mv rfl ?_
        first | refine S_uand rfl rfl rfl (by first | omega | (simp only [IntKind.bits]; omega)) (by first | omega | (simp only [IntKind.bits]; omega)) ?_ | refine S_bin rfl rfl rfl ?_
        refine S_bin rfl rfl rfl ?_
        refine S_nil (hK14 _ _ (V_keep [0, 2, 57] (by simp only [proj, lk, reduceIte, Nat.reduceEqDiff]; rfl) ?_)); clear hK14
        refine V_condp rfl (fun c144 => ?_) (fun c144 => ?_)
        · skip
          refine V_reg T.mix (by kernel_rfl) ?_
          refine S_mv rfl ?_
          refine S_mv rfl ?_
          refine S_nc rfl ?_
          first | refine S_fa0 T.f100_0 rfl ?_ | refine S_fa T.f100_0 rfl ?_
          refine S_ldK T.ag49 rfl (fun K' hK' => ?_)
          simp (disch := omega) only [hP.c0, hP.c1, hP.c2, hP.c3, hP.c4, hP.c5, hP.c6, hP.c7, hP.c8, hP.c9, hP.c10, oP_some, Nat.add_zero]
          refine hK' _ ?_; clear hK' K'
          refine S_mv rfl ?_
          first | refine S_neg rfl (by omega) (by omega) ?_ | refine S_un rfl rfl ?_
          refine S_bs T.ei49 rfl (by decide) (by decide) (T.bs49_1_0 _) ?_
          have hPs := hP
          refine S_appx T.ei49 T.ni49 T.us49 rfl rfl rfl (OwnR.ext hP.ar (Ext.push (fun _ => False) _ _) (fun _ _ f => f)) (Nat.zero_le _) (cellsH_new _ _ _) rfl (by first | omega | (simp only [List.length_append]; omega)) (by decide) (by decide) rfl (fun a1 cap1 h1 ho1 hE1 hb1 => ?_)
          have hI1 : IL h1 a1 cap1 (({ p with arena := p.arena ++ ((if p.del then [13] else []) ++ (litsTo p.pos p.neg (v - 1) ++ (if p.pos.testBit v then [(v : Int)] else []))) }).arena ++ [-(v : Int)]) := by unfold IL; rw [ints_snoc, List.length_append]; exact ho1
          have hO1 : OWNED hj h1 aj a1 := ⟨(Ext.push (fun b => blkA aj = some b) hj _).trans hE1, fun b hb => by rcases hb1 with e | e; (rw [e] at hb; exact .inl hb); (rw [e] at hb; simp at hb; exact .inr (by omega))⟩
          have hS1 : B h1 X (pcells aj cj ({ p with arena := p.arena ++ ((if p.del then [13] else []) ++ (litsTo p.pos p.neg (v - 1) ++ (if p.pos.testBit v then [(v : Int)] else []))) })) 100 := hP.s.ext hO1.1 hP.n
          have hS1ok : okPut h1 ⟨X, 0, none⟩ = true := hS1.ok (by simp [pcells])
          have hN1 : blkA a1 ≠ some X := fun e => by rcases hO1.2 X e with e | e; (exact hP.n e); (have := hP.s.lt; omega)
          refine S_nc rfl ?_
          first | refine S_fa0 T.f100_0 rfl ?_ | refine S_fa T.f100_0 rfl ?_
          refine S_st T.sz49 rfl rfl rfl rfl (by simp (disch := omega) only [hS1ok]) ?_
          generalize hh : putH h1 _ _ = h3
          have hP9 : Par h3 X a1 cap1 { ({ p with arena := p.arena ++ ((if p.del then [13] else []) ++ (litsTo p.pos p.neg (v - 1) ++ (if p.pos.testBit v then [(v : Int)] else []))) }) with arena := ({ p with arena := p.arena ++ ((if p.del then [13] else []) ++ (litsTo p.pos p.neg (v - 1) ++ (if p.pos.testBit v then [(v : Int)] else []))) }).arena ++ [-(v : Int)] } := by rw [← hh]; have hh2 := Par.arena hS1 hI1 hN1 hP.bd; rw [List.length_append] at hh2; exact hh2
          have hX9 : PEx X h h3 a a1 := by rw [← hh]; exact (hX.own hO1).putH _ _
          clear hh hS1 hI1 hN1 hO1 ho1 hE1 hb1 hP hX
          have hP := hP9
          have hX := hX9
          refine S_nilk [0, 2] (by simp only [proj, lk, reduceIte, Nat.reduceEqDiff]; rfl) ?_
          refine hK10 _ _ ?_; clear hK10
          refine V_reg T.mix (by kernel_rfl) ?_
          refine S_mv rfl ?_
          first | refine S_add rfl rfl (by omega) (by omega) ?_ | refine S_bin rfl rfl rfl ?_
          refine S_as rfl ?_
          refine S_nilk [0, 2] (by simp only [proj, lk, reduceIte, Nat.reduceEqDiff]; rfl) ?_
          exact hK7 _ _ ⟨_, by omega, v + 1, h3, a1, cap1, by omega, by omega, hP.eq (by rw [lits_step _ _ hv1, tbT c144]; simp), hX, rfl, rfl, rfl⟩
        · skip
          refine V_skipk [0, 2] (by simp only [proj, lk, reduceIte, Nat.reduceEqDiff]; rfl) ?_
          refine hK10 _ _ ?_; clear hK10
          refine V_reg T.mix (by kernel_rfl) ?_
          refine S_mv rfl ?_
          first | refine S_add rfl rfl (by omega) (by omega) ?_ | refine S_bin rfl rfl rfl ?_
          refine S_as rfl ?_
          refine S_nilk [0, 2] (by simp only [proj, lk, reduceIte, Nat.reduceEqDiff]; rfl) ?_
          exact hK7 _ _ ⟨_, by omega, v + 1, hj, aj, cj, by omega, by omega, hP.eq (by rw [lits_step _ _ hv1, tbF c144]; simp), hX, rfl, rfl, rfl⟩
      · skip
        refine V_exitk [0] rfl (by simp only [proj, lk, reduceIte, Nat.reduceEqDiff]; rfl) ?_
        refine hK5 _ _ ?_; clear hK5
        refine V_reg T.mix (by kernel_rfl) ?_
        refine S_mv rfl ?_
        refine S_mv rfl ?_
        refine S_nc rfl ?_
        first | refine S_fa0 T.f100_0 rfl ?_ | refine S_fa T.f100_0 rfl ?_
        refine S_ldK T.ag49 rfl (fun K' hK' => ?_)
        simp (disch := omega) only [hP.c0, hP.c1, hP.c2, hP.c3, hP.c4, hP.c5, hP.c6, hP.c7, hP.c8, hP.c9, hP.c10, oP_some, Nat.add_zero]
        refine hK' _ ?_; clear hK' K'
        refine S_bs T.ei49 rfl (by decide) (by decide) (T.bs49_1_0 _) ?_
        have hv13 : v = 13 := by omega
        subst hv13
        have hlt := litsTo_len p.pos p.neg (13 - 1)
        have hlt2 := litsTo_len p.pos p.neg 12
        have hdl : (if p.del then [(13 : Int)] else []).length ≤ 1 := by split <;> simp
        replace hP : Par hk X ak ck { p with arena := p.arena ++ ((if p.del then [13] else []) ++ litsTo p.pos p.neg 12) } := hP
        have hPs := hP
        refine S_appx T.ei49 T.ni49 T.us49 rfl rfl rfl (OwnR.ext hP.ar (Ext.push (fun _ => False) _ _) (fun _ _ f => f)) (Nat.zero_le _) (cellsH_new _ _ _) rfl (by first | omega | (simp only [List.length_append]; omega)) (by decide) (by decide) rfl (fun a1 cap1 h1 ho1 hE1 hb1 => ?_)
        have hI1 : IL h1 a1 cap1 (({ p with arena := p.arena ++ ((if p.del then [13] else []) ++ litsTo p.pos p.neg 12) }).arena ++ [0]) := by unfold IL; rw [ints_snoc, List.length_append]; exact ho1
        have hO1 : OWNED hk h1 ak a1 := ⟨(Ext.push (fun b => blkA ak = some b) hk _).trans hE1, fun b hb => by rcases hb1 with e | e; (rw [e] at hb; exact .inl hb); (rw [e] at hb; simp at hb; exact .inr (by omega))⟩
        have hS1 : B h1 X (pcells ak ck ({ p with arena := p.arena ++ ((if p.del then [13] else []) ++ litsTo p.pos p.neg 12) })) 100 := hP.s.ext hO1.1 hP.n
        have hS1ok : okPut h1 ⟨X, 0, none⟩ = true := hS1.ok (by simp [pcells])
        have hN1 : blkA a1 ≠ some X := fun e => by rcases hO1.2 X e with e | e; (exact hP.n e); (have := hP.s.lt; omega)
        refine S_nc rfl ?_
        first | refine S_fa0 T.f100_0 rfl ?_ | refine S_fa T.f100_0 rfl ?_
        refine S_st T.sz49 rfl rfl rfl rfl (by simp (disch := omega) only [hS1ok]) ?_
        generalize hh : putH h1 _ _ = h2
        have hP9 : Par h2 X a1 cap1 { ({ p with arena := p.arena ++ ((if p.del then [13] else []) ++ litsTo p.pos p.neg 12) }) with arena := ({ p with arena := p.arena ++ ((if p.del then [13] else []) ++ litsTo p.pos p.neg 12) }).arena ++ [0] } := by rw [← hh]; have hh2 := Par.arena hS1 hI1 hN1 hP.bd; rw [List.length_append] at hh2; exact hh2
        have hX9 : PEx X h h2 a a1 := by rw [← hh]; exact (hX.own hO1).putH _ _
        clear hh hS1 hI1 hN1 hO1 ho1 hE1 hb1 hP hX
        have hP := hP9
        have hX := hX9
        refine S_nilk [0] (by simp only [proj, lk, reduceIte, Nat.reduceEqDiff]; rfl) ?_
        exact ⟨h2, a1, cap1, _, hP, hX, by rw [if_pos (show p.pos &&& p.neg = 0 by omega)]; simp [rowL], rfl, rfl⟩
    · skip
      refine V_skipk [0] (by simp only [proj, lk, reduceIte, Nat.reduceEqDiff]; rfl) ?_
      exact ⟨h, a, cap, p.arena, hP, hX, by rw [if_neg (show ¬ p.pos &&& p.neg = 0 by omega)], rfl, rfl⟩
  rintro l h' ⟨h5, a5, c5, r, hP, hX, hr, rfl, rfl⟩
  refine V_reg T.mix (by kernel_rfl) ?_
  refine S_mv rfl ?_
  refine S_mv rfl ?_
  refine S_mv rfl ?_
  refine S_mv rfl ?_
  refine S_nc rfl ?_
  first | refine S_fa0 T.f100_5 rfl ?_ | refine S_fa T.f100_5 rfl ?_
  refine S_st T.sz51 rfl rfl rfl rfl (by simp (disch := omega) only [hP.ok]) ?_
  generalize hh : putH _ _ _ = h4
  replace hP : Par h4 X a5 c5 { p with arena := r, pos := 0 } := by rw [← hh]; exact hP.put 5 _ rfl rfl (⟨hbd.1, by simp, hbd.2.2⟩)
  replace hX : PEx X h h4 a a5 := by rw [← hh]; exact hX.putH _ _
  clear hh
  refine S_nc rfl ?_
  first | refine S_fa0 T.f100_6 rfl ?_ | refine S_fa T.f100_6 rfl ?_
  refine S_st T.sz51 rfl rfl rfl rfl (by simp (disch := omega) only [hP.ok]) ?_
  generalize hh : putH _ _ _ = h5
  replace hP : Par h5 X a5 c5 { p with arena := r, pos := 0, neg := 0 } := by rw [← hh]; exact hP.put 6 _ rfl rfl (⟨hbd.1, by simp, by simp⟩)
  replace hX : PEx X h h5 a a5 := by rw [← hh]; exact hX.putH _ _
  clear hh
  refine S_nc rfl ?_
  first | refine S_fa0 T.f100_7 rfl ?_ | refine S_fa T.f100_7 rfl ?_
  refine S_st T.sz4 rfl rfl rfl rfl (by simp (disch := omega) only [hP.ok]) ?_
  generalize hh : putH _ _ _ = h6
  replace hP : Par h6 X a5 c5 { p with arena := r, pos := 0, neg := 0, del := false } := by rw [← hh]; exact hP.put 7 _ rfl rfl (⟨hbd.1, by simp, by simp⟩)
  replace hX : PEx X h h6 a a5 := by rw [← hh]; exact hX.putH _ _
  clear hh
  refine S_nc rfl ?_
  first | refine S_fa0 T.f100_8 rfl ?_ | refine S_fa T.f100_8 rfl ?_
  refine S_st T.sz4 rfl rfl rfl rfl (by simp (disch := omega) only [hP.ok]) ?_
  generalize hh : putH _ _ _ = h7
  replace hP : Par h7 X a5 c5 { p with arena := r, pos := 0, neg := 0, del := false, opn := false } := by rw [← hh]; exact hP.put 8 _ rfl rfl (⟨hbd.1, by simp, by simp⟩)
  replace hX : PEx X h h7 a a5 := by rw [← hh]; exact hX.putH _ _
  clear hh
  refine S_nilk [] (by simp only [proj, lk, reduceIte, Nat.reduceEqDiff]; rfl) ?_
  -- end
  refine hR _ _ (ret0 rfl ?_)
  exact ⟨rfl, _, _, hP.eq (by rw [hr]; rfl), hX⟩
set_option maxHeartbeats 400000 in
theorem number_spec (h : Heap) (X : Nat) (a : Option Addr) (cap : Nat) (p : PS) (hP : Par h X a cap p) (hal : p.arena.length ≤ 1000000000) :
    FC Tryz.prog 114 (#[.pointer (some ⟨X, 0, none⟩)] : Array Value) h fun v h' => v = .tuple #[] ∧ ∃ a' cap', Par h' X a' cap' (numberF p) ∧ PEx X h h' a a' := by
  refine FC_of [(0, .pointer (some ⟨X, 0, none⟩))] Tryz.func114 rfl Tryz.ntmps114 (by simp) rfl (fun R hR => ?_)
  have hX := PEx.refl X h a
  have hbd := hP.bd
  refine V_seq (fun K1 hK1 => ?_)
  refine V_sr T.mix (by kernel_rfl) (fun K2 hK2 => ?_)
  refine S_cut (K' := fun l h' => ∃ b : Bool, (b = true ↔ (p.val = 0 ∧ p.minus = true)) ∧ l = [(0, .pointer (some ⟨X, 0, none⟩)), (12, .bool b)] ∧ h = h') ?_ ?_
  · skip
    refine S_mv rfl ?_
    refine S_nc rfl ?_
    first | refine S_fa0 T.f100_4 rfl ?_ | refine S_fa T.f100_4 rfl ?_
    refine S_ldK T.ag3 rfl (fun K' hK' => ?_)
    simp (disch := omega) only [hP.c0, hP.c1, hP.c2, hP.c3, hP.c4, hP.c5, hP.c6, hP.c7, hP.c8, hP.c9, hP.c10, oP_some, Nat.add_zero]
    refine hK' _ ?_; clear hK' K'
    refine S_bin rfl rfl rfl ?_
    refine S_mv rfl ?_
    refine S_dec (fun g113 => ?_) (fun g113 => ?_)
    · skip
      refine S_gt rfl ?_
      refine S_mv rfl ?_
      refine S_gt rfl ?_
      refine S_nc rfl ?_
      refine S_gt rfl ?_
      first | refine S_fa0 T.f100_3 rfl ?_ | refine S_fa T.f100_3 rfl ?_
      refine S_gt rfl ?_
      refine S_ldK T.ag4 rfl (fun K' hK' => ?_)
      simp (disch := omega) only [hP.c0, hP.c1, hP.c2, hP.c3, hP.c4, hP.c5, hP.c6, hP.c7, hP.c8, hP.c9, hP.c10, oP_some, Nat.add_zero]
      refine hK' _ ?_; clear hK' K'
      refine S_pt rfl rfl ?_
      exact S_nilk [0, 12] (by simp only [proj, lk, reduceIte, Nat.reduceEqDiff]; rfl) ⟨_, (by first | (simp_all; done) | (simp; omega)), rfl, rfl⟩
    · skip
      refine S_gf rfl ?_
      refine S_gf rfl ?_
      refine S_gf rfl ?_
      refine S_gf rfl ?_
      refine S_pf rfl rfl ?_
      exact S_nilk [0, 12] (by simp only [proj, lk, reduceIte, Nat.reduceEqDiff]; rfl) ⟨_, (by first | (simp_all; done) | (simp; omega)), rfl, rfl⟩
  rintro l h' ⟨b, hb113, rfl, rfl⟩
  refine hK2 _ _ ?_; clear hK2
  refine V_condb rfl (fun c113 => ?_) (fun c113 => ?_)
  · replace c113 := hb113.1 c113
    refine V_sr T.mix (by kernel_rfl) (fun K4 hK4 => ?_)
    refine S_mv rfl ?_
    refine S_mv rfl ?_
    refine S_nc rfl ?_
    first | refine S_fa0 T.f100_2 rfl ?_ | refine S_fa T.f100_2 rfl ?_
    refine S_ldK T.ag3 rfl (fun K' hK' => ?_)
    simp (disch := omega) only [hP.c0, hP.c1, hP.c2, hP.c3, hP.c4, hP.c5, hP.c6, hP.c7, hP.c8, hP.c9, hP.c10, oP_some, Nat.add_zero]
    refine hK' _ ?_; clear hK' K'
    refine S_call T.hb86 rfl ?_
    refine FC.mono (fail_spec h X _ _ _ hP 3 p.start) ?_
    rintro v h2 ⟨rfl, a2, cap2, hP2, hX2⟩
    replace hP := hP2
    replace hX := hX.trans hX2
    refine S_nil (hK4 _ _ (V_keep [] (by simp only [proj, lk, reduceIte, Nat.reduceEqDiff]; rfl) ?_)); clear hK4
    refine V_ret ?_
    refine hR _ _ (ret0 rfl ?_)
    refine ⟨rfl, _, _, hP.eq ?_, hX⟩
    clear hP hX hR
    unfold numberF
    try simp only []
    repeat (first | rw [if_pos (by omega)] | rw [if_neg (by omega)])
    all_goals (first | rfl | (split <;> first | rfl | (exfalso; simp_all; done)))
  · replace c113 : ¬ _ := fun hp => Bool.false_ne_true (c113.symm.trans (hb113.2 hp))
    refine V_skipk [0] (by simp only [proj, lk, reduceIte, Nat.reduceEqDiff]; rfl) ?_
    refine hK1 _ _ ?_; clear hK1
    refine V_seq (fun K5 hK5 => ?_)
    refine V_sr T.mix (by kernel_rfl) (fun K6 hK6 => ?_)
    refine S_mv rfl ?_
    refine S_nc rfl ?_
    first | refine S_fa0 T.f100_4 rfl ?_ | refine S_fa T.f100_4 rfl ?_
    refine S_ldK T.ag3 rfl (fun K' hK' => ?_)
    simp (disch := omega) only [hP.c0, hP.c1, hP.c2, hP.c3, hP.c4, hP.c5, hP.c6, hP.c7, hP.c8, hP.c9, hP.c10, oP_some, Nat.add_zero]
    refine hK' _ ?_; clear hK' K'
    refine S_bin rfl rfl rfl ?_
    refine S_nil (hK6 _ _ (V_keep [0, 23] (by simp only [proj, lk, reduceIte, Nat.reduceEqDiff]; rfl) ?_)); clear hK6
    refine V_condp rfl (fun c117 => ?_) (fun c117 => ?_)
    · skip
      refine V_sr T.mix (by kernel_rfl) (fun K7 hK7 => ?_)
      refine S_mv rfl ?_
      refine S_mv rfl ?_
      refine S_nc rfl ?_
      first | refine S_fa0 T.f100_2 rfl ?_ | refine S_fa T.f100_2 rfl ?_
      refine S_ldK T.ag3 rfl (fun K' hK' => ?_)
      simp (disch := omega) only [hP.c0, hP.c1, hP.c2, hP.c3, hP.c4, hP.c5, hP.c6, hP.c7, hP.c8, hP.c9, hP.c10, oP_some, Nat.add_zero]
      refine hK' _ ?_; clear hK' K'
      refine S_call T.hb86 rfl ?_
      refine FC.mono (fail_spec h X _ _ _ hP 4 p.start) ?_
      rintro v h2 ⟨rfl, a2, cap2, hP2, hX2⟩
      replace hP := hP2
      replace hX := hX.trans hX2
      refine S_nil (hK7 _ _ (V_keep [] (by simp only [proj, lk, reduceIte, Nat.reduceEqDiff]; rfl) ?_)); clear hK7
      refine V_ret ?_
      refine hR _ _ (ret0 rfl ?_)
      refine ⟨rfl, _, _, hP.eq ?_, hX⟩
      clear hP hX hR
      unfold numberF
      try simp only []
      repeat (first | rw [if_pos (by omega)] | rw [if_neg (by omega)])
      all_goals (first | rfl | (split <;> first | rfl | (exfalso; simp_all; done)))
    · skip
      refine V_skipk [0] (by simp only [proj, lk, reduceIte, Nat.reduceEqDiff]; rfl) ?_
      refine hK5 _ _ ?_; clear hK5
      refine V_seq (fun K8 hK8 => ?_)
      refine V_sr T.mix (by kernel_rfl) (fun K9 hK9 => ?_)
      refine S_mv rfl ?_
      refine S_nc rfl ?_
      first | refine S_fa0 T.f100_4 rfl ?_ | refine S_fa T.f100_4 rfl ?_
      refine S_ldK T.ag3 rfl (fun K' hK' => ?_)
      simp (disch := omega) only [hP.c0, hP.c1, hP.c2, hP.c3, hP.c4, hP.c5, hP.c6, hP.c7, hP.c8, hP.c9, hP.c10, oP_some, Nat.add_zero]
      refine hK' _ ?_; clear hK' K'
      refine S_bin rfl rfl rfl ?_
      refine S_nil (hK9 _ _ (V_keep [0, 34] (by simp only [proj, lk, reduceIte, Nat.reduceEqDiff]; rfl) ?_)); clear hK9
      refine V_condp rfl (fun c121 => ?_) (fun c121 => ?_)
      · skip
        refine V_sr T.mix (by kernel_rfl) (fun K10 hK10 => ?_)
        refine S_mv rfl ?_
        refine S_call T.hb136 rfl ?_
        refine FC.mono (endrow_spec h X _ _ _ hP hal) ?_
        rintro v h2 ⟨rfl, a2, cap2, hP2, hX2⟩
        replace hP := hP2
        replace hX := hX.trans hX2
        refine S_nil (hK10 _ _ (V_keep [] (by simp only [proj, lk, reduceIte, Nat.reduceEqDiff]; rfl) ?_)); clear hK10
        refine V_ret ?_
        refine hR _ _ (ret0 rfl ?_)
        refine ⟨rfl, _, _, hP.eq ?_, hX⟩
        clear hP hX hR
        unfold numberF
        try simp only []
        repeat (first | rw [if_pos (by omega)] | rw [if_neg (by omega)])
        all_goals (first | rfl | (split <;> first | rfl | (exfalso; simp_all; done)))
      · skip
        have hpw : 2 ^ p.val ≤ 2 ^ 12 := Nat.pow_le_pow_right (by omega) (by omega)
        have hon : p.neg ||| 2 ^ p.val < 8192 := Nat.or_lt_two_pow (n := 13) hbd.2.2 (by omega)
        have hop : p.pos ||| 2 ^ p.val < 8192 := Nat.or_lt_two_pow (n := 13) hbd.2.1 (by omega)
        refine V_skipk [0] (by simp only [proj, lk, reduceIte, Nat.reduceEqDiff]; rfl) ?_
        refine hK8 _ _ ?_; clear hK8
        refine V_sr T.mix (by kernel_rfl) (fun K11 hK11 => ?_)
        refine S_mv rfl ?_
        refine S_nc rfl ?_
        first | refine S_fa0 T.f100_8 rfl ?_ | refine S_fa T.f100_8 rfl ?_
        refine S_st T.sz4 rfl rfl rfl rfl (by simp (disch := omega) only [hP.ok]) ?_
        generalize hh : putH _ _ _ = h1
        replace hP : Par h1 X a cap { p with opn := true } := by rw [← hh]; exact hP.put 8 _ rfl rfl (hP.bd)
        replace hX : PEx X h h1 a a := by rw [← hh]; exact hX.putH _ _
        clear hh
        refine S_nil (hK11 _ _ (V_keep [0] (by simp only [proj, lk, reduceIte, Nat.reduceEqDiff]; rfl) ?_)); clear hK11
        refine V_sr T.mix (by kernel_rfl) (fun K12 hK12 => ?_)
        refine S_mv rfl ?_
        refine S_nc rfl ?_
        first | refine S_fa0 T.f100_3 rfl ?_ | refine S_fa T.f100_3 rfl ?_
        refine S_ldK T.ag4 rfl (fun K' hK' => ?_)
        simp (disch := omega) only [hP.c0, hP.c1, hP.c2, hP.c3, hP.c4, hP.c5, hP.c6, hP.c7, hP.c8, hP.c9, hP.c10, oP_some, Nat.add_zero]
        refine hK' _ ?_; clear hK' K'
        refine S_nil (hK12 _ _ (V_keep [0, 43] (by simp only [proj, lk, reduceIte, Nat.reduceEqDiff]; rfl) ?_)); clear hK12
        refine V_condb rfl (fun c126 => ?_) (fun c126 => ?_)
        · skip
          refine V_reg T.mix (by kernel_rfl) ?_
          refine S_mv rfl ?_
          refine S_mv rfl ?_
          refine S_nc rfl ?_
          first | refine S_fa0 T.f100_6 rfl ?_ | refine S_fa T.f100_6 rfl ?_
          refine S_ldK T.ag51 rfl (fun K' hK' => ?_)
          simp (disch := omega) only [hP.c0, hP.c1, hP.c2, hP.c3, hP.c4, hP.c5, hP.c6, hP.c7, hP.c8, hP.c9, hP.c10, oP_some, Nat.add_zero]
          refine hK' _ ?_; clear hK' K'
          refine S_mv rfl ?_
          refine S_nc rfl ?_
          first | refine S_fa0 T.f100_4 rfl ?_ | refine S_fa T.f100_4 rfl ?_
          refine S_ldK T.ag3 rfl (fun K' hK' => ?_)
          simp (disch := omega) only [hP.c0, hP.c1, hP.c2, hP.c3, hP.c4, hP.c5, hP.c6, hP.c7, hP.c8, hP.c9, hP.c10, oP_some, Nat.add_zero]
          refine hK' _ ?_; clear hK' K'
          first | refine S_cvn T.us3 T.in57 rfl rfl (by first | omega | (simp only [IntKind.bits]; omega)) ?_ | refine S_cvu T.us3 T.in57 rfl (by omega) (by omega) ?_ | refine S_cv T.us3 T.in57 rfl ?_
          first | refine S_bit rfl rfl rfl (by first | omega | (simp only [IntKind.bits]; omega)) ?_ | refine S_bin rfl rfl rfl ?_
          first | refine S_uor rfl rfl rfl (by first | omega | (simp only [IntKind.bits]; omega)) (by first | omega | (simp only [IntKind.bits]; omega)) ?_ | refine S_bin rfl rfl rfl ?_
          refine S_nc rfl ?_
          first | refine S_fa0 T.f100_6 rfl ?_ | refine S_fa T.f100_6 rfl ?_
          refine S_st T.sz51 rfl rfl rfl rfl (by simp (disch := omega) only [hP.ok]) ?_
          generalize hh : putH _ _ _ = h2
          replace hP : Par h2 X a cap { p with opn := true, neg := p.neg ||| 2 ^ p.val } := by rw [← hh]; exact hP.put 6 _ rfl rfl (⟨hP.bd.1, hP.bd.2.1, hon⟩)
          replace hX : PEx X h h2 a a := by rw [← hh]; exact hX.putH _ _
          clear hh
          refine S_nilk [] (by simp only [proj, lk, reduceIte, Nat.reduceEqDiff]; rfl) ?_
          -- end
          refine hR _ _ (ret0 rfl ?_)
          refine ⟨rfl, _, _, hP.eq ?_, hX⟩
          clear hP hX hR
          unfold numberF
          try simp only []
          repeat (first | rw [if_pos (by omega)] | rw [if_neg (by omega)])
          all_goals (first | rfl | (split <;> first | rfl | (exfalso; simp_all; done)))
        · skip
          refine V_reg T.mix (by kernel_rfl) ?_
          refine S_mv rfl ?_
          refine S_mv rfl ?_
          refine S_nc rfl ?_
          first | refine S_fa0 T.f100_5 rfl ?_ | refine S_fa T.f100_5 rfl ?_
          refine S_ldK T.ag51 rfl (fun K' hK' => ?_)
          simp (disch := omega) only [hP.c0, hP.c1, hP.c2, hP.c3, hP.c4, hP.c5, hP.c6, hP.c7, hP.c8, hP.c9, hP.c10, oP_some, Nat.add_zero]
          refine hK' _ ?_; clear hK' K'
          refine S_mv rfl ?_
          refine S_nc rfl ?_
          first | refine S_fa0 T.f100_4 rfl ?_ | refine S_fa T.f100_4 rfl ?_
          refine S_ldK T.ag3 rfl (fun K' hK' => ?_)
          simp (disch := omega) only [hP.c0, hP.c1, hP.c2, hP.c3, hP.c4, hP.c5, hP.c6, hP.c7, hP.c8, hP.c9, hP.c10, oP_some, Nat.add_zero]
          refine hK' _ ?_; clear hK' K'
          first | refine S_cvn T.us3 T.in57 rfl rfl (by first | omega | (simp only [IntKind.bits]; omega)) ?_ | refine S_cvu T.us3 T.in57 rfl (by omega) (by omega) ?_ | refine S_cv T.us3 T.in57 rfl ?_
          first | refine S_bit rfl rfl rfl (by first | omega | (simp only [IntKind.bits]; omega)) ?_ | refine S_bin rfl rfl rfl ?_
          first | refine S_uor rfl rfl rfl (by first | omega | (simp only [IntKind.bits]; omega)) (by first | omega | (simp only [IntKind.bits]; omega)) ?_ | refine S_bin rfl rfl rfl ?_
          refine S_nc rfl ?_
          first | refine S_fa0 T.f100_5 rfl ?_ | refine S_fa T.f100_5 rfl ?_
          refine S_st T.sz51 rfl rfl rfl rfl (by simp (disch := omega) only [hP.ok]) ?_
          generalize hh : putH _ _ _ = h2
          replace hP : Par h2 X a cap { p with opn := true, pos := p.pos ||| 2 ^ p.val } := by rw [← hh]; exact hP.put 5 _ rfl rfl (⟨hP.bd.1, hop, hP.bd.2.2⟩)
          replace hX : PEx X h h2 a a := by rw [← hh]; exact hX.putH _ _
          clear hh
          refine S_nilk [] (by simp only [proj, lk, reduceIte, Nat.reduceEqDiff]; rfl) ?_
          -- end
          refine hR _ _ (ret0 rfl ?_)
          refine ⟨rfl, _, _, hP.eq ?_, hX⟩
          clear hP hX hR
          unfold numberF
          try simp only []
          repeat (first | rw [if_pos (by omega)] | rw [if_neg (by omega)])
          all_goals (first | rfl | (split <;> first | rfl | (exfalso; simp_all; done)))
set_option maxHeartbeats 400000 in
theorem feed_spec (h : Heap) (X : Nat) (a : Option Addr) (cap : Nat) (p : PS) (hP : Par h X a cap p) (hal : p.arena.length ≤ 1000000000) (hv : p.val ≤ 13) (c i : Nat) (hc : c < 256) :
    FC Tryz.prog 85 (#[.pointer (some ⟨X, 0, none⟩), .int .u8 c, .int .i64 i] : Array Value) h fun v h' => v = .tuple #[] ∧ ∃ a' cap', Par h' X a' cap' (feedF p c i) ∧ PEx X h h' a a' := by
  refine FC_of [(0, .pointer (some ⟨X, 0, none⟩)), (1, .int .u8 c), (2, .int .i64 i)] Tryz.func85 rfl Tryz.ntmps85 (by simp) rfl (fun R hR => ?_)
  have hX := PEx.refl X h a
  have hbd := hP.bd
  refine V_sr T.mix (by kernel_rfl) (fun K1 hK1 => ?_)
  refine S_mv rfl ?_
  refine S_call T.hb112 rfl ?_
  refine FC.mono (class_spec h c) ?_
  rintro v h' ⟨rfl, rfl⟩
  refine S_as rfl ?_
  refine S_nil (hK1 _ _ (V_keep [0, 1, 2, 6] (by simp only [proj, lk, reduceIte, Nat.reduceEqDiff]; rfl) ?_)); clear hK1
  refine V_sr T.mix (by kernel_rfl) (fun K2 hK2 => ?_)
  refine S_mv rfl ?_
  refine S_nc rfl ?_
  first | refine S_fa0 T.f100_1 rfl ?_ | refine S_fa T.f100_1 rfl ?_
  refine S_ldK T.ag3 rfl (fun K' hK' => ?_)
  simp (disch := omega) only [hP.c0, hP.c1, hP.c2, hP.c3, hP.c4, hP.c5, hP.c6, hP.c7, hP.c8, hP.c9, hP.c10, oP_some, Nat.add_zero]
  refine hK' _ ?_; clear hK' K'
  refine S_nil (hK2 _ _ (V_keep [0, 1, 2, 6, 12] (by simp only [proj, lk, reduceIte, Nat.reduceEqDiff]; rfl) ?_)); clear hK2
  refine V_block ?_
  refine V_sr T.mix (by kernel_rfl) (fun K3 hK3 => ?_)
  refine S_bin rfl rfl rfl ?_
  refine S_as rfl ?_
  refine S_nil (hK3 _ _ (V_keep [0, 1, 2, 6, 12, 13] (by simp only [proj, lk, reduceIte, Nat.reduceEqDiff]; rfl) ?_)); clear hK3
  refine V_condp rfl (fun c51 => ?_) (fun c51 => ?_)
  · skip
    refine V_reg T.mix (by kernel_rfl) ?_
    refine S_mv rfl ?_
    refine S_mv rfl ?_
    refine S_mv rfl ?_
    refine S_mv rfl ?_
    refine S_call T.hb113 rfl ?_
    refine FC.mono (begin_spec h X _ _ _ hP c i hc) ?_
    rintro v h2 ⟨rfl, a2, cap2, hP2, hX2⟩
    replace hP := hP2
    replace hX := hX.trans hX2
    refine S_nilk [] (by simp only [proj, lk, reduceIte, Nat.reduceEqDiff]; rfl) ?_
    -- end
    refine hR _ _ (ret0 rfl ?_)
    clear hbd
    refine ⟨rfl, _, _, hP.eq ?_, hX⟩
    clear hP hX hR
    unfold feedF satF
    try simp only []
    repeat (first | rw [if_pos (by omega)] | rw [if_neg (by omega)])
    all_goals (first | rfl | (split <;> first | rfl | (exfalso; simp_all; done)))
  · skip
    refine V_sr T.mix (by kernel_rfl) (fun K4 hK4 => ?_)
    refine S_bin rfl rfl rfl ?_
    refine S_as rfl ?_
    refine S_nil (hK4 _ _ (V_keep [0, 1, 2, 6, 12, 20] (by simp only [proj, lk, reduceIte, Nat.reduceEqDiff]; rfl) ?_)); clear hK4
    refine V_condp rfl (fun c53 => ?_) (fun c53 => ?_)
    · skip
      refine V_sr T.mix (by kernel_rfl) (fun K5 hK5 => ?_)
      refine S_mv rfl ?_
      refine S_bin rfl rfl rfl ?_
      refine S_nil (hK5 _ _ (V_keep [0, 23] (by simp only [proj, lk, reduceIte, Nat.reduceEqDiff]; rfl) ?_)); clear hK5
      refine V_condp rfl (fun c54 => ?_) (fun c54 => ?_)
      · skip
        refine V_reg T.mix (by kernel_rfl) ?_
        refine S_mv rfl ?_
        refine S_nc rfl ?_
        first | refine S_fa0 T.f100_1 rfl ?_ | refine S_fa T.f100_1 rfl ?_
        refine S_st T.sz3 rfl rfl rfl rfl (by simp (disch := omega) only [hP.ok]) ?_
        generalize hh : putH _ _ _ = h1
        replace hP : Par h1 X a cap { p with state := 0 } := by rw [← hh]; exact hP.put 1 _ rfl rfl (hP.bd)
        replace hX : PEx X h h1 a a := by rw [← hh]; exact hX.putH _ _
        clear hh
        refine S_nilk [] (by simp only [proj, lk, reduceIte, Nat.reduceEqDiff]; rfl) ?_
        -- end
        refine hR _ _ (ret0 rfl ?_)
        clear hbd
        refine ⟨rfl, _, _, hP.eq ?_, hX⟩
        clear hP hX hR
        unfold feedF satF
        try simp only []
        repeat (first | rw [if_pos (by omega)] | rw [if_neg (by omega)])
        all_goals (first | rfl | (split <;> first | rfl | (exfalso; simp_all; done)))
      · skip
        refine V_skipk [] (by simp only [proj, lk, reduceIte, Nat.reduceEqDiff]; rfl) ?_
        -- end
        refine hR _ _ (ret0 rfl ?_)
        clear hbd
        refine ⟨rfl, _, _, hP.eq ?_, hX⟩
        clear hP hX hR
        unfold feedF satF
        try simp only []
        repeat (first | rw [if_pos (by omega)] | rw [if_neg (by omega)])
        all_goals (first | rfl | (split <;> first | rfl | (exfalso; simp_all; done)))
    · skip
      refine V_sr T.mix (by kernel_rfl) (fun K6 hK6 => ?_)
      refine S_bin rfl rfl rfl ?_
      refine S_as rfl ?_
      refine S_nil (hK6 _ _ (V_keep [0, 1, 2, 6, 12, 27] (by simp only [proj, lk, reduceIte, Nat.reduceEqDiff]; rfl) ?_)); clear hK6
      refine V_condp rfl (fun c57 => ?_) (fun c57 => ?_)
      · skip
        refine V_sr T.mix (by kernel_rfl) (fun K7 hK7 => ?_)
        refine S_mv rfl ?_
        refine S_bin rfl rfl rfl ?_
        refine S_nil (hK7 _ _ (V_keep [0, 1, 2, 6, 30] (by simp only [proj, lk, reduceIte, Nat.reduceEqDiff]; rfl) ?_)); clear hK7
        refine V_condp rfl (fun c58 => ?_) (fun c58 => ?_)
        · skip
          have hdg : dig c := cls_dig.1 (by omega)
          unfold dig at hdg
          refine V_sr T.mix (by kernel_rfl) (fun K8 hK8 => ?_)
          refine S_mv rfl ?_
          refine S_nc rfl ?_
          first | refine S_fa0 T.f100_1 rfl ?_ | refine S_fa T.f100_1 rfl ?_
          refine S_st T.sz3 rfl rfl rfl rfl (by simp (disch := omega) only [hP.ok]) ?_
          generalize hh : putH _ _ _ = h1
          replace hP : Par h1 X a cap { p with state := 3 } := by rw [← hh]; exact hP.put 1 _ rfl rfl (hP.bd)
          replace hX : PEx X h h1 a a := by rw [← hh]; exact hX.putH _ _
          clear hh
          refine S_nil (hK8 _ _ (V_keep [0, 1] (by simp only [proj, lk, reduceIte, Nat.reduceEqDiff]; rfl) ?_)); clear hK8
          refine V_reg T.mix (by kernel_rfl) ?_
          refine S_mv rfl ?_
          refine S_mv rfl ?_
          refine S_bin rfl rfl rfl ?_
          rw [wrap_u8 (by omega) (by omega), show ((c : Int) - 48) = ((c - 48 : Nat) : Int) by omega]
          first | refine S_cvi T.us5 T.in3 rfl (by omega) (by omega) ?_ | refine S_cv T.us5 T.in3 rfl ?_
          refine S_nc rfl ?_
          first | refine S_fa0 T.f100_4 rfl ?_ | refine S_fa T.f100_4 rfl ?_
          refine S_st T.sz3 rfl rfl rfl rfl (by simp (disch := omega) only [hP.ok]) ?_
          generalize hh : putH _ _ _ = h2
          replace hP : Par h2 X a cap { p with state := 3, val := c - 48 } := by rw [← hh]; exact hP.put 4 _ rfl rfl (⟨by simp only []; omega, hP.bd.2⟩)
          replace hX : PEx X h h2 a a := by rw [← hh]; exact hX.putH _ _
          clear hh
          refine S_nilk [] (by simp only [proj, lk, reduceIte, Nat.reduceEqDiff]; rfl) ?_
          -- end
          refine hR _ _ (ret0 rfl ?_)
          clear hbd
          refine ⟨rfl, _, _, hP.eq ?_, hX⟩
          clear hP hX hR
          unfold feedF satF
          try simp only []
          repeat (first | rw [if_pos (by omega)] | rw [if_neg (by omega)])
          all_goals (first | rfl | (split <;> first | rfl | (exfalso; simp_all; done)))
        · skip
          refine V_sr T.mix (by kernel_rfl) (fun K9 hK9 => ?_)
          refine S_mv rfl ?_
          refine S_bin rfl rfl rfl ?_
          refine S_nil (hK9 _ _ (V_keep [0, 2, 41] (by simp only [proj, lk, reduceIte, Nat.reduceEqDiff]; rfl) ?_)); clear hK9
          refine V_condp rfl (fun c61 => ?_) (fun c61 => ?_)
          · skip
            refine V_reg T.mix (by kernel_rfl) ?_
            refine S_mv rfl ?_
            refine S_mv rfl ?_
            refine S_nc rfl ?_
            first | refine S_fa0 T.f100_2 rfl ?_ | refine S_fa T.f100_2 rfl ?_
            refine S_ldK T.ag3 rfl (fun K' hK' => ?_)
            simp (disch := omega) only [hP.c0, hP.c1, hP.c2, hP.c3, hP.c4, hP.c5, hP.c6, hP.c7, hP.c8, hP.c9, hP.c10, oP_some, Nat.add_zero]
            refine hK' _ ?_; clear hK' K'
            refine S_call T.hb86 rfl ?_
            refine FC.mono (fail_spec h X _ _ _ hP 3 p.start) ?_
            rintro v h2 ⟨rfl, a2, cap2, hP2, hX2⟩
            replace hP := hP2
            replace hX := hX.trans hX2
            refine S_nilk [] (by simp only [proj, lk, reduceIte, Nat.reduceEqDiff]; rfl) ?_
            -- end
            refine hR _ _ (ret0 rfl ?_)
            clear hbd
            refine ⟨rfl, _, _, hP.eq ?_, hX⟩
            clear hP hX hR
            unfold feedF satF
            try simp only []
            repeat (first | rw [if_pos (by omega)] | rw [if_neg (by omega)])
            all_goals (first | rfl | (split <;> first | rfl | (exfalso; simp_all; done)))
          · skip
            refine V_reg T.mix (by kernel_rfl) ?_
            refine S_mv rfl ?_
            refine S_mv rfl ?_
            refine S_call T.hb86 rfl ?_
            refine FC.mono (fail_spec h X _ _ _ hP 2 i) ?_
            rintro v h2 ⟨rfl, a2, cap2, hP2, hX2⟩
            replace hP := hP2
            replace hX := hX.trans hX2
            refine S_nilk [] (by simp only [proj, lk, reduceIte, Nat.reduceEqDiff]; rfl) ?_
            -- end
            refine hR _ _ (ret0 rfl ?_)
            clear hbd
            refine ⟨rfl, _, _, hP.eq ?_, hX⟩
            clear hP hX hR
            unfold feedF satF
            try simp only []
            repeat (first | rw [if_pos (by omega)] | rw [if_neg (by omega)])
            all_goals (first | rfl | (split <;> first | rfl | (exfalso; simp_all; done)))
      · skip
        refine V_sr T.mix (by kernel_rfl) (fun K10 hK10 => ?_)
        refine S_bin rfl rfl rfl ?_
        refine S_as rfl ?_
        refine S_nil (hK10 _ _ (V_keep [0, 1, 2, 6, 12, 51] (by simp only [proj, lk, reduceIte, Nat.reduceEqDiff]; rfl) ?_)); clear hK10
        refine V_condp rfl (fun c66 => ?_) (fun c66 => ?_)
        · skip
          refine V_sr T.mix (by kernel_rfl) (fun K11 hK11 => ?_)
          refine S_mv rfl ?_
          refine S_bin rfl rfl rfl ?_
          refine S_nil (hK11 _ _ (V_keep [0, 1, 2, 6, 54] (by simp only [proj, lk, reduceIte, Nat.reduceEqDiff]; rfl) ?_)); clear hK11
          refine V_condp rfl (fun c67 => ?_) (fun c67 => ?_)
          · skip
            have hdg : dig c := cls_dig.1 (by omega)
            unfold dig at hdg
            refine V_sr T.mix (by kernel_rfl) (fun K12 hK12 => ?_)
            refine S_mv rfl ?_
            refine S_mv rfl ?_
            refine S_nc rfl ?_
            first | refine S_fa0 T.f100_4 rfl ?_ | refine S_fa T.f100_4 rfl ?_
            refine S_ldK T.ag3 rfl (fun K' hK' => ?_)
            simp (disch := omega) only [hP.c0, hP.c1, hP.c2, hP.c3, hP.c4, hP.c5, hP.c6, hP.c7, hP.c8, hP.c9, hP.c10, oP_some, Nat.add_zero]
            refine hK' _ ?_; clear hK' K'
            refine S_mul rfl rfl (by omega) (by omega) ?_
            refine S_mv rfl ?_
            refine S_bin rfl rfl rfl ?_
            rw [wrap_u8 (by omega) (by omega), show ((c : Int) - 48) = ((c - 48 : Nat) : Int) by omega]
            first | refine S_cvi T.us5 T.in3 rfl (by omega) (by omega) ?_ | refine S_cv T.us5 T.in3 rfl ?_
            refine S_add rfl rfl (by omega) (by omega) ?_
            rw [show (p.val : Int) * 10 + ((c - 48 : Nat) : Int) = ((p.val * 10 + (c - 48) : Nat) : Int) by omega]
            refine S_nc rfl ?_
            first | refine S_fa0 T.f100_4 rfl ?_ | refine S_fa T.f100_4 rfl ?_
            refine S_st T.sz3 rfl rfl rfl rfl (by simp (disch := omega) only [hP.ok]) ?_
            generalize hh : putH _ _ _ = h1
            replace hP : Par h1 X a cap { p with val := p.val * 10 + (c - 48) } := by rw [← hh]; exact hP.put 4 _ rfl rfl (⟨by simp only []; omega, hP.bd.2⟩)
            replace hX : PEx X h h1 a a := by rw [← hh]; exact hX.putH _ _
            clear hh
            refine S_nil (hK12 _ _ (V_keep [0] (by simp only [proj, lk, reduceIte, Nat.reduceEqDiff]; rfl) ?_)); clear hK12
            refine V_sr T.mix (by kernel_rfl) (fun K13 hK13 => ?_)
            refine S_mv rfl ?_
            refine S_nc rfl ?_
            first | refine S_fa0 T.f100_4 rfl ?_ | refine S_fa T.f100_4 rfl ?_
            refine S_ldK T.ag3 rfl (fun K' hK' => ?_)
            simp (disch := omega) only [hP.c0, hP.c1, hP.c2, hP.c3, hP.c4, hP.c5, hP.c6, hP.c7, hP.c8, hP.c9, hP.c10, oP_some, Nat.add_zero]
            refine hK' _ ?_; clear hK' K'
            refine S_bin rfl rfl rfl ?_
            refine S_nil (hK13 _ _ (V_keep [0, 71] (by simp only [proj, lk, reduceIte, Nat.reduceEqDiff]; rfl) ?_)); clear hK13
            refine V_condp rfl (fun c69 => ?_) (fun c69 => ?_)
            · skip
              refine V_reg T.mix (by kernel_rfl) ?_
              refine S_mv rfl ?_
              refine S_nc rfl ?_
              first | refine S_fa0 T.f100_4 rfl ?_ | refine S_fa T.f100_4 rfl ?_
              refine S_st T.sz3 rfl rfl rfl rfl (by simp (disch := omega) only [hP.ok]) ?_
              generalize hh : putH _ _ _ = h2
              replace hP : Par h2 X a cap { p with val := 13 } := by rw [← hh]; exact hP.put 4 _ rfl rfl (⟨by simp, hP.bd.2⟩)
              replace hX : PEx X h h2 a a := by rw [← hh]; exact hX.putH _ _
              clear hh
              refine S_nilk [] (by simp only [proj, lk, reduceIte, Nat.reduceEqDiff]; rfl) ?_
              -- end
              refine hR _ _ (ret0 rfl ?_)
              clear hbd
              refine ⟨rfl, _, _, hP.eq ?_, hX⟩
              clear hP hX hR
              unfold feedF satF
              try simp only []
              repeat (first | rw [if_pos (by omega)] | rw [if_neg (by omega)])
              all_goals (first | rfl | (split <;> first | rfl | (exfalso; simp_all; done)))
            · skip
              refine V_skipk [] (by simp only [proj, lk, reduceIte, Nat.reduceEqDiff]; rfl) ?_
              -- end
              refine hR _ _ (ret0 rfl ?_)
              clear hbd
              refine ⟨rfl, _, _, hP.eq ?_, hX⟩
              clear hP hX hR
              unfold feedF satF
              try simp only []
              repeat (first | rw [if_pos (by omega)] | rw [if_neg (by omega)])
              all_goals (first | rfl | (split <;> first | rfl | (exfalso; simp_all; done)))
          · skip
            refine V_sr T.mix (by kernel_rfl) (fun K14 hK14 => ?_)
            refine S_mv rfl ?_
            refine S_bin rfl rfl rfl ?_
            refine S_nil (hK14 _ _ (V_keep [0, 2, 76] (by simp only [proj, lk, reduceIte, Nat.reduceEqDiff]; rfl) ?_)); clear hK14
            refine V_condp rfl (fun c72 => ?_) (fun c72 => ?_)
            · skip
              refine V_sr T.mix (by kernel_rfl) (fun K15 hK15 => ?_)
              refine S_mv rfl ?_
              refine S_nc rfl ?_
              first | refine S_fa0 T.f100_1 rfl ?_ | refine S_fa T.f100_1 rfl ?_
              refine S_st T.sz3 rfl rfl rfl rfl (by simp (disch := omega) only [hP.ok]) ?_
              generalize hh : putH _ _ _ = h1
              replace hP : Par h1 X a cap { p with state := 0 } := by rw [← hh]; exact hP.put 1 _ rfl rfl (hP.bd)
              replace hX : PEx X h h1 a a := by rw [← hh]; exact hX.putH _ _
              clear hh
              refine S_nil (hK15 _ _ (V_keep [0] (by simp only [proj, lk, reduceIte, Nat.reduceEqDiff]; rfl) ?_)); clear hK15
              refine V_reg T.mix (by kernel_rfl) ?_
              refine S_mv rfl ?_
              refine S_call T.hb114 rfl ?_
              refine FC.mono (number_spec h1 X _ _ _ hP hal) ?_
              rintro v h2 ⟨rfl, a2, cap2, hP2, hX2⟩
              replace hP := hP2
              replace hX := hX.trans hX2
              refine S_nilk [] (by simp only [proj, lk, reduceIte, Nat.reduceEqDiff]; rfl) ?_
              -- end
              refine hR _ _ (ret0 rfl ?_)
              clear hbd
              refine ⟨rfl, _, _, hP.eq ?_, hX⟩
              clear hP hX hR
              unfold feedF satF
              try simp only []
              repeat (first | rw [if_pos (by omega)] | rw [if_neg (by omega)])
              all_goals (first | rfl | (split <;> first | rfl | (exfalso; simp_all; done)))
            · skip
              refine V_reg T.mix (by kernel_rfl) ?_
              refine S_mv rfl ?_
              refine S_mv rfl ?_
              refine S_call T.hb86 rfl ?_
              refine FC.mono (fail_spec h X _ _ _ hP 2 i) ?_
              rintro v h2 ⟨rfl, a2, cap2, hP2, hX2⟩
              replace hP := hP2
              replace hX := hX.trans hX2
              refine S_nilk [] (by simp only [proj, lk, reduceIte, Nat.reduceEqDiff]; rfl) ?_
              -- end
              refine hR _ _ (ret0 rfl ?_)
              clear hbd
              refine ⟨rfl, _, _, hP.eq ?_, hX⟩
              clear hP hX hR
              unfold feedF satF
              try simp only []
              repeat (first | rw [if_pos (by omega)] | rw [if_neg (by omega)])
              all_goals (first | rfl | (split <;> first | rfl | (exfalso; simp_all; done)))
        · skip
          refine V_sr T.mix (by kernel_rfl) (fun K16 hK16 => ?_)
          refine S_bin rfl rfl rfl ?_
          refine S_as rfl ?_
          refine S_nil (hK16 _ _ (V_keep [0, 2, 6, 85] (by simp only [proj, lk, reduceIte, Nat.reduceEqDiff]; rfl) ?_)); clear hK16
          refine V_condp rfl (fun c78 => ?_) (fun c78 => ?_)
          · skip
            refine V_sr T.mix (by kernel_rfl) (fun K17 hK17 => ?_)
            refine S_mv rfl ?_
            refine S_bin rfl rfl rfl ?_
            refine S_nil (hK17 _ _ (V_keep [0, 2, 88] (by simp only [proj, lk, reduceIte, Nat.reduceEqDiff]; rfl) ?_)); clear hK17
            refine V_condp rfl (fun c79 => ?_) (fun c79 => ?_)
            · skip
              refine V_reg T.mix (by kernel_rfl) ?_
              refine S_mv rfl ?_
              refine S_nc rfl ?_
              first | refine S_fa0 T.f100_1 rfl ?_ | refine S_fa T.f100_1 rfl ?_
              refine S_st T.sz3 rfl rfl rfl rfl (by simp (disch := omega) only [hP.ok]) ?_
              generalize hh : putH _ _ _ = h1
              replace hP : Par h1 X a cap { p with state := 0 } := by rw [← hh]; exact hP.put 1 _ rfl rfl (hP.bd)
              replace hX : PEx X h h1 a a := by rw [← hh]; exact hX.putH _ _
              clear hh
              refine S_nilk [] (by simp only [proj, lk, reduceIte, Nat.reduceEqDiff]; rfl) ?_
              -- end
              refine hR _ _ (ret0 rfl ?_)
              clear hbd
              refine ⟨rfl, _, _, hP.eq ?_, hX⟩
              clear hP hX hR
              unfold feedF satF
              try simp only []
              repeat (first | rw [if_pos (by omega)] | rw [if_neg (by omega)])
              all_goals (first | rfl | (split <;> first | rfl | (exfalso; simp_all; done)))
            · skip
              refine V_reg T.mix (by kernel_rfl) ?_
              refine S_mv rfl ?_
              refine S_mv rfl ?_
              refine S_call T.hb86 rfl ?_
              refine FC.mono (fail_spec h X _ _ _ hP 2 i) ?_
              rintro v h2 ⟨rfl, a2, cap2, hP2, hX2⟩
              replace hP := hP2
              replace hX := hX.trans hX2
              refine S_nilk [] (by simp only [proj, lk, reduceIte, Nat.reduceEqDiff]; rfl) ?_
              -- end
              refine hR _ _ (ret0 rfl ?_)
              clear hbd
              refine ⟨rfl, _, _, hP.eq ?_, hX⟩
              clear hP hX hR
              unfold feedF satF
              try simp only []
              repeat (first | rw [if_pos (by omega)] | rw [if_neg (by omega)])
              all_goals (first | rfl | (split <;> first | rfl | (exfalso; simp_all; done)))
          · skip
            refine V_skipk [] (by simp only [proj, lk, reduceIte, Nat.reduceEqDiff]; rfl) ?_
            -- end
            refine hR _ _ (ret0 rfl ?_)
            clear hbd
            refine ⟨rfl, _, _, hP.eq ?_, hX⟩
            clear hP hX hR
            unfold feedF satF
            try simp only []
            repeat (first | rw [if_pos (by omega)] | rw [if_neg (by omega)])
            all_goals (first | rfl | (split <;> first | rfl | (exfalso; simp_all; done)))
end Go.Proofs.Qxb6500401aGreat.ChkW
