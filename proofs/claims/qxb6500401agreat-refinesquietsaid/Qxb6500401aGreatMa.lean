import Derived.Test.Qxb6500401aGreatKb
set_option linter.unusedVariables false
set_option linter.unusedSimpArgs false
namespace Go.Proofs.Qxb6500401aGreat
open Go.Eng Go.Trl Go.Chk Go.Wat

structure SR where
  act : Nat → Int
  ph : Nat → Int
  inc : Nat
  al : Nat
  ct : Nat
  cf : Nat
  rs : Nat
  si : Nat
def scell (P X C K : Nat) (la : Option Addr) (ln lc : Nat) (Q : SR) (j : Nat) : Value := if j = 0 then .pointer (some ⟨P, 0, none⟩) else if j = 1 then .pointer (some ⟨X, 0, none⟩) else if j = 2 then .pointer (some ⟨C, 0, none⟩) else if j = 3 then .pointer (some ⟨K, 0, none⟩) else if j = 4 then .slice la ln lc else if j < 18 then .int .i64 (Q.act (j - 5)) else if j < 31 then .int .i64 (Q.ph (j - 18)) else if j = 31 then .int .i64 (Q.inc : Int) else if j = 32 then .int .u16 (Q.al : Int) else if j = 33 then .int .i64 (Q.ct : Int) else if j = 34 then .int .i64 (Q.cf : Int) else if j = 35 then .int .i64 (Q.rs : Int) else .int .i64 (Q.si : Int)
abbrev SB (h : Heap) (V P X C K : Nat) (la : Option Addr) (ln lc : Nat) (Q : SR) : Prop := B h V (arr 37 (scell P X C K la ln lc Q)) 53
theorem sc_ext {P X C K : Nat} {la la' : Option Addr} {ln lc ln' lc' : Nat} {Q Q' : SR} {j : Nat} (h4 : j = 4 → Value.slice la ln lc = .slice la' ln' lc') (ha : 5 ≤ j → j < 18 → Q.act (j - 5) = Q'.act (j - 5)) (hp : 18 ≤ j → j < 31 → Q.ph (j - 18) = Q'.ph (j - 18)) (h1 : j = 31 → Q.inc = Q'.inc) (h2 : j = 32 → Q.al = Q'.al) (h3 : j = 33 → Q.ct = Q'.ct) (h5 : j = 34 → Q.cf = Q'.cf) (h6 : j = 35 → Q.rs = Q'.rs) (h7 : 36 ≤ j → Q.si = Q'.si) : scell P X C K la ln lc Q j = scell P X C K la' ln' lc' Q' j := by
  unfold scell
  by_cases c0 : j = 0
  · rw [if_pos c0, if_pos c0]
  rw [if_neg c0, if_neg c0]
  by_cases c1 : j = 1
  · rw [if_pos c1, if_pos c1]
  rw [if_neg c1, if_neg c1]
  by_cases c2 : j = 2
  · rw [if_pos c2, if_pos c2]
  rw [if_neg c2, if_neg c2]
  by_cases c3 : j = 3
  · rw [if_pos c3, if_pos c3]
  rw [if_neg c3, if_neg c3]
  by_cases c4 : j = 4
  · rw [if_pos c4, if_pos c4, h4 c4]
  rw [if_neg c4, if_neg c4]
  by_cases c5 : j < 18
  · rw [if_pos c5, if_pos c5, ha (by omega) c5]
  rw [if_neg c5, if_neg c5]
  by_cases c6 : j < 31
  · rw [if_pos c6, if_pos c6, hp (by omega) c6]
  rw [if_neg c6, if_neg c6]
  by_cases c7 : j = 31
  · rw [if_pos c7, if_pos c7, h1 c7]
  rw [if_neg c7, if_neg c7]
  by_cases c8 : j = 32
  · rw [if_pos c8, if_pos c8, h2 c8]
  rw [if_neg c8, if_neg c8]
  by_cases c9 : j = 33
  · rw [if_pos c9, if_pos c9, h3 c9]
  rw [if_neg c9, if_neg c9]
  by_cases c10 : j = 34
  · rw [if_pos c10, if_pos c10, h5 c10]
  rw [if_neg c10, if_neg c10]
  by_cases c11 : j = 35
  · rw [if_pos c11, if_pos c11, h6 c11]
  rw [if_neg c11, if_neg c11, h7 (by omega)]
section sl
variable {h : Heap} {V P X C K : Nat} {la : Option Addr} {ln lc : Nat} {Q : SR}
theorem slP (hB : SB h V P X C K la ln lc Q) : cellH h ⟨V, 0, none⟩ = some (.pointer (some ⟨P, 0, none⟩)) := by rw [hB.cellA (by omega)]; simp [scell]
theorem slT (hB : SB h V P X C K la ln lc Q) : cellH h ⟨V, 1, none⟩ = some (.pointer (some ⟨X, 0, none⟩)) := by rw [hB.cellA (by omega)]; simp [scell]
theorem slW (hB : SB h V P X C K la ln lc Q) : cellH h ⟨V, 2, none⟩ = some (.pointer (some ⟨C, 0, none⟩)) := by rw [hB.cellA (by omega)]; simp [scell]
theorem slL (hB : SB h V P X C K la ln lc Q) : cellH h ⟨V, 3, none⟩ = some (.pointer (some ⟨K, 0, none⟩)) := by rw [hB.cellA (by omega)]; simp [scell]
theorem slLog (hB : SB h V P X C K la ln lc Q) : cellH h ⟨V, 4, none⟩ = some (.slice la ln lc) := by rw [hB.cellA (by omega)]; simp [scell]
theorem slAct (hB : SB h V P X C K la ln lc Q) (i : Nat) (hi : i < 13) : cellH h ⟨V, 5 + i, none⟩ = some (.int .i64 (Q.act i)) := by
  rw [hB.cellA (by omega)]; unfold scell
  rw [if_neg (by omega), if_neg (by omega), if_neg (by omega), if_neg (by omega), if_neg (by omega), if_pos (by omega), show 5 + i - 5 = i by omega]
theorem slPh (hB : SB h V P X C K la ln lc Q) (i : Nat) (hi : i < 13) : cellH h ⟨V, 18 + i, none⟩ = some (.int .i64 (Q.ph i)) := by
  rw [hB.cellA (by omega)]; unfold scell
  rw [if_neg (by omega), if_neg (by omega), if_neg (by omega), if_neg (by omega), if_neg (by omega), if_neg (by omega), if_pos (by omega), show 18 + i - 18 = i by omega]
theorem sok (hB : SB h V P X C K la ln lc Q) (j : Nat) (hj : j < 37) : okPut h ⟨V, j, none⟩ = true := hB.okA hj
theorem ssLog (hB : SB h V P X C K la ln lc Q) (a : Option Addr) (n c : Nat) : SB (putH h ⟨V, 4, none⟩ (.slice a n c)) V P X C K a n c Q :=
  (hB.putA 4 _).cong (arr_ext fun j hj => by
    by_cases e : j = 4
    · subst e; simp [scell]
    · rw [if_neg e]; exact sc_ext (fun q => by first | rfl | omega) (fun q1 q2 => by first | rfl | (simp only [upI]; rw [if_neg (by omega)])) (fun q1 q2 => by first | rfl | (simp only [upI]; rw [if_neg (by omega)])) (fun q => by first | rfl | omega) (fun q => by first | rfl | omega) (fun q => by first | rfl | omega) (fun q => by first | rfl | omega) (fun q => by first | rfl | omega) (fun q => by first | rfl | omega))
theorem ssAct (hB : SB h V P X C K la ln lc Q) (i : Nat) (x : Int) (hi : i < 13) : SB (putH h ⟨V, 5 + i, none⟩ (.int .i64 x)) V P X C K la ln lc { Q with act := upI Q.act i x } :=
  (hB.putA (5 + i) _).cong (arr_ext fun j hj => by
    by_cases e : j = 5 + i
    · subst e; simp only [scell, upI, if_true, show 5 + i - 5 = i by omega]
      rw [if_neg (by omega), if_neg (by omega), if_neg (by omega), if_neg (by omega), if_neg (by omega), if_pos (by omega)]
    · rw [if_neg e]; exact sc_ext (fun q => by first | rfl | omega) (fun q1 q2 => by first | rfl | (simp only [upI]; rw [if_neg (by omega)])) (fun q1 q2 => by first | rfl | (simp only [upI]; rw [if_neg (by omega)])) (fun q => by first | rfl | omega) (fun q => by first | rfl | omega) (fun q => by first | rfl | omega) (fun q => by first | rfl | omega) (fun q => by first | rfl | omega) (fun q => by first | rfl | omega))
theorem ssPh (hB : SB h V P X C K la ln lc Q) (i : Nat) (x : Int) (hi : i < 13) : SB (putH h ⟨V, 18 + i, none⟩ (.int .i64 x)) V P X C K la ln lc { Q with ph := upI Q.ph i x } :=
  (hB.putA (18 + i) _).cong (arr_ext fun j hj => by
    by_cases e : j = 18 + i
    · subst e; simp only [scell, upI, if_true, show 18 + i - 18 = i by omega]
      rw [if_neg (by omega), if_neg (by omega), if_neg (by omega), if_neg (by omega), if_neg (by omega), if_neg (by omega), if_pos (by omega)]
    · rw [if_neg e]; exact sc_ext (fun q => by first | rfl | omega) (fun q1 q2 => by first | rfl | (simp only [upI]; rw [if_neg (by omega)])) (fun q1 q2 => by first | rfl | (simp only [upI]; rw [if_neg (by omega)])) (fun q => by first | rfl | omega) (fun q => by first | rfl | omega) (fun q => by first | rfl | omega) (fun q => by first | rfl | omega) (fun q => by first | rfl | omega) (fun q => by first | rfl | omega))
theorem slInc (hB : SB h V P X C K la ln lc Q) : cellH h ⟨V, 31, none⟩ = some (.int .i64 (Q.inc : Int)) := by rw [hB.cellA (by omega)]; simp [scell]
theorem ssInc (hB : SB h V P X C K la ln lc Q) (x : Nat) : SB (putH h ⟨V, 31, none⟩ (.int .i64 (x : Int))) V P X C K la ln lc { Q with inc := x } :=
  (hB.putA 31 _).cong (arr_ext fun j hj => by
    by_cases e : j = 31
    · subst e; simp [scell]
    · rw [if_neg e]; exact sc_ext (fun q => by first | rfl | omega) (fun q1 q2 => by first | rfl | (simp only [upI]; rw [if_neg (by omega)])) (fun q1 q2 => by first | rfl | (simp only [upI]; rw [if_neg (by omega)])) (fun q => by first | rfl | omega) (fun q => by first | rfl | omega) (fun q => by first | rfl | omega) (fun q => by first | rfl | omega) (fun q => by first | rfl | omega) (fun q => by first | rfl | omega))
theorem slAl (hB : SB h V P X C K la ln lc Q) : cellH h ⟨V, 32, none⟩ = some (.int .u16 (Q.al : Int)) := by rw [hB.cellA (by omega)]; simp [scell]
theorem ssAl (hB : SB h V P X C K la ln lc Q) (x : Nat) : SB (putH h ⟨V, 32, none⟩ (.int .u16 (x : Int))) V P X C K la ln lc { Q with al := x } :=
  (hB.putA 32 _).cong (arr_ext fun j hj => by
    by_cases e : j = 32
    · subst e; simp [scell]
    · rw [if_neg e]; exact sc_ext (fun q => by first | rfl | omega) (fun q1 q2 => by first | rfl | (simp only [upI]; rw [if_neg (by omega)])) (fun q1 q2 => by first | rfl | (simp only [upI]; rw [if_neg (by omega)])) (fun q => by first | rfl | omega) (fun q => by first | rfl | omega) (fun q => by first | rfl | omega) (fun q => by first | rfl | omega) (fun q => by first | rfl | omega) (fun q => by first | rfl | omega))
theorem slCt (hB : SB h V P X C K la ln lc Q) : cellH h ⟨V, 33, none⟩ = some (.int .i64 (Q.ct : Int)) := by rw [hB.cellA (by omega)]; simp [scell]
theorem ssCt (hB : SB h V P X C K la ln lc Q) (x : Nat) : SB (putH h ⟨V, 33, none⟩ (.int .i64 (x : Int))) V P X C K la ln lc { Q with ct := x } :=
  (hB.putA 33 _).cong (arr_ext fun j hj => by
    by_cases e : j = 33
    · subst e; simp [scell]
    · rw [if_neg e]; exact sc_ext (fun q => by first | rfl | omega) (fun q1 q2 => by first | rfl | (simp only [upI]; rw [if_neg (by omega)])) (fun q1 q2 => by first | rfl | (simp only [upI]; rw [if_neg (by omega)])) (fun q => by first | rfl | omega) (fun q => by first | rfl | omega) (fun q => by first | rfl | omega) (fun q => by first | rfl | omega) (fun q => by first | rfl | omega) (fun q => by first | rfl | omega))
theorem slCf (hB : SB h V P X C K la ln lc Q) : cellH h ⟨V, 34, none⟩ = some (.int .i64 (Q.cf : Int)) := by rw [hB.cellA (by omega)]; simp [scell]
theorem ssCf (hB : SB h V P X C K la ln lc Q) (x : Nat) : SB (putH h ⟨V, 34, none⟩ (.int .i64 (x : Int))) V P X C K la ln lc { Q with cf := x } :=
  (hB.putA 34 _).cong (arr_ext fun j hj => by
    by_cases e : j = 34
    · subst e; simp [scell]
    · rw [if_neg e]; exact sc_ext (fun q => by first | rfl | omega) (fun q1 q2 => by first | rfl | (simp only [upI]; rw [if_neg (by omega)])) (fun q1 q2 => by first | rfl | (simp only [upI]; rw [if_neg (by omega)])) (fun q => by first | rfl | omega) (fun q => by first | rfl | omega) (fun q => by first | rfl | omega) (fun q => by first | rfl | omega) (fun q => by first | rfl | omega) (fun q => by first | rfl | omega))
theorem slRs (hB : SB h V P X C K la ln lc Q) : cellH h ⟨V, 35, none⟩ = some (.int .i64 (Q.rs : Int)) := by rw [hB.cellA (by omega)]; simp [scell]
theorem ssRs (hB : SB h V P X C K la ln lc Q) (x : Nat) : SB (putH h ⟨V, 35, none⟩ (.int .i64 (x : Int))) V P X C K la ln lc { Q with rs := x } :=
  (hB.putA 35 _).cong (arr_ext fun j hj => by
    by_cases e : j = 35
    · subst e; simp [scell]
    · rw [if_neg e]; exact sc_ext (fun q => by first | rfl | omega) (fun q1 q2 => by first | rfl | (simp only [upI]; rw [if_neg (by omega)])) (fun q1 q2 => by first | rfl | (simp only [upI]; rw [if_neg (by omega)])) (fun q => by first | rfl | omega) (fun q => by first | rfl | omega) (fun q => by first | rfl | omega) (fun q => by first | rfl | omega) (fun q => by first | rfl | omega) (fun q => by first | rfl | omega))
theorem slSi (hB : SB h V P X C K la ln lc Q) : cellH h ⟨V, 36, none⟩ = some (.int .i64 (Q.si : Int)) := by rw [hB.cellA (by omega)]; simp [scell]
theorem ssSi (hB : SB h V P X C K la ln lc Q) (x : Nat) : SB (putH h ⟨V, 36, none⟩ (.int .i64 (x : Int))) V P X C K la ln lc { Q with si := x } :=
  (hB.putA 36 _).cong (arr_ext fun j hj => by
    by_cases e : j = 36
    · subst e; simp [scell]
    · rw [if_neg e]; exact sc_ext (fun q => by first | rfl | omega) (fun q1 q2 => by first | rfl | (simp only [upI]; rw [if_neg (by omega)])) (fun q1 q2 => by first | rfl | (simp only [upI]; rw [if_neg (by omega)])) (fun q => by first | rfl | omega) (fun q => by first | rfl | omega) (fun q => by first | rfl | omega) (fun q => by first | rfl | omega) (fun q => by first | rfl | omega) (fun q => by first | rfl | omega))
end sl
/-- which blocks a call may turn -/
def SEx (V X C K : Nat) (h h' : Heap) (a a' : Option Addr) : Prop := Ext (fun b => b = V ∨ b = X ∨ b = C ∨ b = K ∨ blkA a = some b) h h' ∧ ∀ b, blkA a' = some b → blkA a = some b ∨ h.size ≤ b
theorem SEx.refl (V X C K : Nat) (h : Heap) (a : Option Addr) : SEx V X C K h h a a := ⟨Ext.refl _ _, fun _ h => .inl h⟩
theorem SEx.trans {V X C K : Nat} {h h1 h2 : Heap} {a b c : Option Addr} (x : SEx V X C K h h1 a b) (y : SEx V X C K h1 h2 b c) : SEx V X C K h h2 a c := by
  have hs := x.1.1
  refine ⟨x.1.step y.1 (fun k hk e => ?_), fun k hk => ?_⟩
  · rcases e with e | e | e | e | e
    · exact .inl e
    · exact .inr (.inl e)
    · exact .inr (.inr (.inl e))
    · exact .inr (.inr (.inr (.inl e)))
    · rcases x.2 k e with e | e; exact .inr (.inr (.inr (.inr e))); omega
  · rcases y.2 k hk with e | e
    · exact x.2 k e
    · exact .inr (by omega)
theorem SEx.put {V X C K : Nat} {h h1 h2 : Heap} {a b : Option Addr} (x : SEx V X C K h h1 a b) {S : Nat → Prop} (y : Ext S h1 h2) (hS : ∀ k, S k → k = V ∨ k = X ∨ k = C ∨ k = K ∨ blkA b = some k) : SEx V X C K h h2 a b :=
  x.trans ⟨y.mono hS, fun _ h => .inl h⟩
/-- all that the loop stands on -/
structure SX (h : Heap) (V P X C K : Nat) (la : Option Addr) (lc : Nat) (Q : SR) (lg : List Int) (W : WC) (cl : Nat → Option (List Int)) (s : TS) (p : Nat) : Prop where
  sb : SB h V P X C K la lg.length lc Q
  wx : WX h C X W cl s p
  lb : LB h K C X LS.z 0
  lo : IL h la lc lg
  ne : V ≠ X ∧ V ≠ C ∧ V ≠ K ∧ K ≠ C ∧ K ≠ X
  lne : ∀ b, blkA la = some b → b ≠ V ∧ b ≠ X ∧ b ≠ C ∧ b ≠ K
section sx
variable {h h' : Heap} {V P X C K : Nat} {la : Option Addr} {lc : Nat} {Q : SR} {lg : List Int} {W : WC} {cl : Nat → Option (List Int)} {s : TS} {p : Nat}
theorem SX.lt (w : SX h V P X C K la lc Q lg W cl s p) : V < h.size ∧ X < h.size ∧ C < h.size ∧ K < h.size := ⟨w.sb.lt, w.wx.t.lt, w.wx.b.lt, w.lb.lt⟩
theorem SX.new (w : SX h V P X C K la lc Q lg W cl s p) (he : Ext (fun _ => False) h h') : SX h' V P X C K la lc Q lg W cl s p :=
  ⟨w.sb.ext he (fun f => f), w.wx.ext he (fun f => f) (fun f => f), w.lb.ext he (fun f => f), w.lo.ext he (fun _ _ f => f), w.ne, w.lne⟩
theorem SX.own {Q' : SR} (w : SX h V P X C K la lc Q lg W cl s p) (he : Ext (fun b => b = V) h h') (hb : SB h' V P X C K la lg.length lc Q') : SX h' V P X C K la lc Q' lg W cl s p :=
  ⟨hb, w.wx.ext he (fun e => w.ne.2.1 e.symm) (fun e => w.ne.1 e.symm), w.lb.ext he (fun e => w.ne.2.2.1 e.symm), w.lo.ext he (fun b e f => (w.lne b e).1 f), w.ne, w.lne⟩
theorem SX.trail {s' : TS} {p' : Nat} (w : SX h V P X C K la lc Q lg W cl s p) (he : Ext (fun b => b = X) h h') (hr : RS h' X s' p') (hi : WI W cl (lits s'.L) s'.c) : SX h' V P X C K la lc Q lg W cl s' p' :=
  ⟨w.sb.ext he w.ne.1, ⟨w.wx.b.ext he (fun e => w.wx.ne e), hi, hr, w.wx.ne⟩, w.lb.ext he w.ne.2.2.2.2, w.lo.ext he (fun b e f => (w.lne b e).2.1 f), w.ne, w.lne⟩
theorem SX.watch {W' : WC} {cl' : Nat → Option (List Int)} {s' : TS} {p' : Nat} {S : Nat → Prop} (w : SX h V P X C K la lc Q lg W cl s p) (he : Ext S h h') (hS : ∀ b, S b → b = C ∨ b = X) (hw : WX h' C X W' cl' s' p') : SX h' V P X C K la lc Q lg W' cl' s' p' :=
  ⟨w.sb.ext he (fun f => by rcases hS _ f with q | q; exact w.ne.2.1 q; exact w.ne.1 q), hw, w.lb.ext he (fun f => by rcases hS _ f with q | q; exact w.ne.2.2.2.1 q; exact w.ne.2.2.2.2 q), w.lo.ext he (fun b e f => by rcases hS _ f with q | q; exact (w.lne b e).2.2.1 q; exact (w.lne b e).2.1 q), w.ne, w.lne⟩
theorem SX.learn (w : SX h V P X C K la lc Q lg W cl s p) (he : Ext (fun b => b = K) h h') (hl : LB h' K C X LS.z 0) : SX h' V P X C K la lc Q lg W cl s p :=
  ⟨w.sb.ext he w.ne.2.2.1, w.wx.ext he (fun e => w.ne.2.2.2.1 e.symm) (fun e => w.ne.2.2.2.2 e.symm), hl, w.lo.ext he (fun b e f => (w.lne b e).2.2.2 f), w.ne, w.lne⟩
end sx
def ivF (r : Nat) : Nat := if r < 4 then r + 1 else 0
set_option maxHeartbeats 400000 in
theorem interval_spec (h : Heap) (r : Nat) (hr : r ≤ 1000) :
    FC Tryz.prog 16 (#[.int .i64 (r : Int)] : Array Value) h fun rv h' => rv = .int .i64 ((ivF r : Nat) : Int) ∧ h = h' := by
  refine FC_of [(0, .int .i64 (r : Int))] Tryz.func16 rfl Tryz.ntmps16 (by simp) rfl (fun R hR => ?_)
  refine V_sr T.mix (by kernel_rfl) (fun K1 hK1 => ?_)
  refine S_as rfl ?_
  refine S_nil (hK1 _ _ (V_keep [0] (by simp only [proj, lk, reduceIte, Nat.reduceEqDiff]; rfl) ?_)); clear hK1
  refine V_seq (fun K2 hK2 => ?_)
  refine V_sr T.mix (by kernel_rfl) (fun K3 hK3 => ?_)
  refine S_mv rfl ?_
  refine S_bin rfl rfl rfl ?_
  refine S_mv rfl ?_
  refine S_dec (fun g140 => ?_) (fun g140 => ?_)
  · skip
    refine S_gf rfl ?_
    refine S_gf rfl ?_
    refine S_pt rfl rfl ?_
    refine S_nil (hK3 _ _ (V_keep [0, 8] (by simp only [proj, lk, reduceIte, Nat.reduceEqDiff]; rfl) ?_)); clear hK3
    refine V_condt rfl ?_
    refine V_sr T.mix (by kernel_rfl) (fun K4 hK4 => ?_)
    refine S_as rfl ?_
    refine S_nil (hK4 _ _ (V_keep [2] (by simp only [proj, lk, reduceIte, Nat.reduceEqDiff]; rfl) ?_)); clear hK4
    refine V_ret ?_
    refine hR _ _ (ret1 rfl rfl ?_)
    exact ⟨by unfold ivF; rw [if_neg (by omega)]; rfl, rfl⟩
  · skip
    refine S_gt rfl ?_
    refine S_mv rfl ?_
    refine S_gt rfl ?_
    refine S_bin rfl rfl rfl ?_
    refine S_pf rfl rfl ?_
    refine S_nil (hK3 _ _ (V_keep [0, 8] (by simp only [proj, lk, reduceIte, Nat.reduceEqDiff]; rfl) ?_)); clear hK3
    refine V_condp rfl (fun c140 => ?_) (fun c140 => ?_)
    · skip
      refine V_sr T.mix (by kernel_rfl) (fun K5 hK5 => ?_)
      refine S_as rfl ?_
      refine S_nil (hK5 _ _ (V_keep [2] (by simp only [proj, lk, reduceIte, Nat.reduceEqDiff]; rfl) ?_)); clear hK5
      refine V_ret ?_
      refine hR _ _ (ret1 rfl rfl ?_)
      exact ⟨by unfold ivF; rw [if_neg (by omega)]; rfl, rfl⟩
    · skip
      refine V_skipk [0] (by simp only [proj, lk, reduceIte, Nat.reduceEqDiff]; rfl) ?_
      refine hK2 _ _ ?_; clear hK2
      refine V_sr T.mix (by kernel_rfl) (fun K6 hK6 => ?_)
      refine S_mv rfl ?_
      first | refine S_add rfl rfl (by omega) (by omega) ?_ | refine S_bin rfl rfl rfl ?_
      refine S_as rfl ?_
      refine S_nil (hK6 _ _ (V_keep [2] (by simp only [proj, lk, reduceIte, Nat.reduceEqDiff]; rfl) ?_)); clear hK6
      refine V_ret ?_
      refine hR _ _ (ret1 rfl rfl ?_)
      exact ⟨by unfold ivF; rw [if_pos (by omega)]; rfl, rfl⟩
end Go.Proofs.Qxb6500401aGreat
