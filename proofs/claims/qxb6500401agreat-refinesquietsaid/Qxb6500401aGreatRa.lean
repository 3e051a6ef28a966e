import Derived.Test.Qxb6500401aGreatTb
import Derived.Test.Qxb6500401aGreatLt
set_option linter.unusedVariables false
set_option linter.unusedSimpArgs false
namespace Go.Proofs.Qxb6500401aGreat
open Go.Eng Go.Trl

structure RC where
  stk : Nat → Int
  top : Nat
  cur : Nat
  dep : Nat
  val : Nat → Int
  lev : Nat → Int
  rea : Nat → Int
  pla : Nat → Int
  lim : Nat → Int
  pops : Nat
def rcell (R : RC) (j : Nat) : Value := if j < 12 then .int .i64 (R.stk j) else if j = 12 then .int .i64 (R.top : Int) else if j = 13 then .int .i64 (R.cur : Int) else if j = 14 then .int .i64 (R.dep : Int) else if j < 28 then .int .i8 (R.val (j - 15)) else if j < 41 then .int .i64 (R.lev (j - 28)) else if j < 54 then .int .i64 (R.rea (j - 41)) else if j < 67 then .int .i64 (R.pla (j - 54)) else if j < 80 then .int .i64 (R.lim (j - 67)) else .int .i64 (R.pops : Int)
def up (f : Nat → Int) (v : Nat) (x : Int) : Nat → Int := fun u => if u = v then x else f u
theorem up_self (f : Nat → Int) (v : Nat) (x : Int) : up f v x v = x := by simp [up]
theorem up_ne {f : Nat → Int} {u v : Nat} {x : Int} (h : u ≠ v) : up f v x u = f u := by simp [up, h]
theorem up_up (f : Nat → Int) (v : Nat) (x y : Int) : up (up f v x) v y = up f v y := by funext u; unfold up; split <;> rfl
abbrev RB (h : Heap) (X : Nat) (R : RC) : Prop := B h X (arr 81 (rcell R)) 105
section rl
variable {h : Heap} {X : Nat} {R : RC}
theorem rlStk (hB : RB h X R) (i : Nat) (hi : i < 12) : cellH h ⟨X, i, none⟩ = some (.int .i64 (R.stk i)) := by rw [hB.cellA (by omega)]; simp [rcell, hi]
theorem rlTop (hB : RB h X R) : cellH h ⟨X, 12, none⟩ = some (.int .i64 (R.top : Int)) := by rw [hB.cellA (by omega)]; simp [rcell]
theorem rlCur (hB : RB h X R) : cellH h ⟨X, 13, none⟩ = some (.int .i64 (R.cur : Int)) := by rw [hB.cellA (by omega)]; simp [rcell]
theorem rlDep (hB : RB h X R) : cellH h ⟨X, 14, none⟩ = some (.int .i64 (R.dep : Int)) := by rw [hB.cellA (by omega)]; simp [rcell]
theorem rlVal (hB : RB h X R) (v : Nat) (hv : v < 13) : cellH h ⟨X, 15 + v, none⟩ = some (.int .i8 (R.val v)) := by
  rw [hB.cellA (by omega)]; unfold rcell
  rw [if_neg (by omega), if_neg (by omega), if_neg (by omega), if_neg (by omega), if_pos (by omega), show 15 + v - 15 = v by omega]
theorem rlLev (hB : RB h X R) (v : Nat) (hv : v < 13) : cellH h ⟨X, 28 + v, none⟩ = some (.int .i64 (R.lev v)) := by
  rw [hB.cellA (by omega)]; unfold rcell
  rw [if_neg (by omega), if_neg (by omega), if_neg (by omega), if_neg (by omega), if_neg (by omega), if_pos (by omega), show 28 + v - 28 = v by omega]
theorem rlRea (hB : RB h X R) (v : Nat) (hv : v < 13) : cellH h ⟨X, 41 + v, none⟩ = some (.int .i64 (R.rea v)) := by
  rw [hB.cellA (by omega)]; unfold rcell
  rw [if_neg (by omega), if_neg (by omega), if_neg (by omega), if_neg (by omega), if_neg (by omega), if_neg (by omega), if_pos (by omega), show 41 + v - 41 = v by omega]
theorem rlPla (hB : RB h X R) (v : Nat) (hv : v < 13) : cellH h ⟨X, 54 + v, none⟩ = some (.int .i64 (R.pla v)) := by
  rw [hB.cellA (by omega)]; unfold rcell
  rw [if_neg (by omega), if_neg (by omega), if_neg (by omega), if_neg (by omega), if_neg (by omega), if_neg (by omega), if_neg (by omega), if_pos (by omega), show 54 + v - 54 = v by omega]
theorem rlLim (hB : RB h X R) (v : Nat) (hv : v < 13) : cellH h ⟨X, 67 + v, none⟩ = some (.int .i64 (R.lim v)) := by
  rw [hB.cellA (by omega)]; unfold rcell
  rw [if_neg (by omega), if_neg (by omega), if_neg (by omega), if_neg (by omega), if_neg (by omega), if_neg (by omega), if_neg (by omega), if_neg (by omega), if_pos (by omega), show 67 + v - 67 = v by omega]
theorem rlPops (hB : RB h X R) : cellH h ⟨X, 80, none⟩ = some (.int .i64 (R.pops : Int)) := by rw [hB.cellA (by omega)]; simp [rcell]
theorem rok (hB : RB h X R) (j : Nat) (hj : j < 81) : okPut h ⟨X, j, none⟩ = true := hB.okA hj
theorem psStk (hB : RB h X R) (i : Nat) (x : Int) (hi : i < 12) : RB (putH h ⟨X, i, none⟩ (.int .i64 x)) X { R with stk := up R.stk i x } :=
  (hB.putA i _).cong (arr_ext fun j hj => by
    unfold rcell up
    by_cases e : j = i
    · subst e; simp [hi]
    · simp only [e, if_false])
theorem psTop (hB : RB h X R) (n : Nat) : RB (putH h ⟨X, 12, none⟩ (.int .i64 (n : Int))) X { R with top := n } :=
  (hB.putA 12 _).cong (arr_ext fun j hj => by
    by_cases e : j = 12
    · subst e; simp [rcell]
    · simp only [rcell, e, if_false])
theorem psCur (hB : RB h X R) (n : Nat) : RB (putH h ⟨X, 13, none⟩ (.int .i64 (n : Int))) X { R with cur := n } :=
  (hB.putA 13 _).cong (arr_ext fun j hj => by
    by_cases e : j = 13
    · subst e; simp [rcell]
    · simp only [rcell, e, if_false])
theorem psDep (hB : RB h X R) (n : Nat) : RB (putH h ⟨X, 14, none⟩ (.int .i64 (n : Int))) X { R with dep := n } :=
  (hB.putA 14 _).cong (arr_ext fun j hj => by
    by_cases e : j = 14
    · subst e; simp [rcell]
    · simp only [rcell, e, if_false])
theorem psVal (hB : RB h X R) (v : Nat) (x : Int) (hv : v < 13) : RB (putH h ⟨X, 15 + v, none⟩ (.int .i8 x)) X { R with val := up R.val v x } :=
  (hB.putA (15 + v) _).cong (arr_ext fun j hj => by
    by_cases e : j = 15 + v
    · subst e; simp only [rcell, up, if_true, show 15 + v - 15 = v by omega]; rw [if_neg (by omega), if_neg (by omega), if_neg (by omega), if_neg (by omega), if_pos (by omega)]
    · rw [if_neg e]; unfold rcell up; simp only []; repeat' split
      all_goals first | rfl | (exfalso; omega))
theorem psLev (hB : RB h X R) (v : Nat) (x : Int) (hv : v < 13) : RB (putH h ⟨X, 28 + v, none⟩ (.int .i64 x)) X { R with lev := up R.lev v x } :=
  (hB.putA (28 + v) _).cong (arr_ext fun j hj => by
    by_cases e : j = 28 + v
    · subst e; simp only [rcell, up, if_true, show 28 + v - 28 = v by omega]; rw [if_neg (by omega), if_neg (by omega), if_neg (by omega), if_neg (by omega), if_neg (by omega), if_pos (by omega)]
    · rw [if_neg e]; unfold rcell up; simp only []; repeat' split
      all_goals first | rfl | (exfalso; omega))
theorem psRea (hB : RB h X R) (v : Nat) (x : Int) (hv : v < 13) : RB (putH h ⟨X, 41 + v, none⟩ (.int .i64 x)) X { R with rea := up R.rea v x } :=
  (hB.putA (41 + v) _).cong (arr_ext fun j hj => by
    by_cases e : j = 41 + v
    · subst e; simp only [rcell, up, if_true, show 41 + v - 41 = v by omega]; rw [if_neg (by omega), if_neg (by omega), if_neg (by omega), if_neg (by omega), if_neg (by omega), if_neg (by omega), if_pos (by omega)]
    · rw [if_neg e]; unfold rcell up; simp only []; repeat' split
      all_goals first | rfl | (exfalso; omega))
theorem psPla (hB : RB h X R) (v : Nat) (x : Int) (hv : v < 13) : RB (putH h ⟨X, 54 + v, none⟩ (.int .i64 x)) X { R with pla := up R.pla v x } :=
  (hB.putA (54 + v) _).cong (arr_ext fun j hj => by
    by_cases e : j = 54 + v
    · subst e; simp only [rcell, up, if_true, show 54 + v - 54 = v by omega]; rw [if_neg (by omega), if_neg (by omega), if_neg (by omega), if_neg (by omega), if_neg (by omega), if_neg (by omega), if_neg (by omega), if_pos (by omega)]
    · rw [if_neg e]; unfold rcell up; simp only []; repeat' split
      all_goals first | rfl | (exfalso; omega))
theorem psLim (hB : RB h X R) (v : Nat) (x : Int) (hv : v < 13) : RB (putH h ⟨X, 67 + v, none⟩ (.int .i64 x)) X { R with lim := up R.lim v x } :=
  (hB.putA (67 + v) _).cong (arr_ext fun j hj => by
    by_cases e : j = 67 + v
    · subst e; simp only [rcell, up, if_true, show 67 + v - 67 = v by omega]; rw [if_neg (by omega), if_neg (by omega), if_neg (by omega), if_neg (by omega), if_neg (by omega), if_neg (by omega), if_neg (by omega), if_neg (by omega), if_pos (by omega)]
    · rw [if_neg e]; unfold rcell up; simp only []; repeat' split
      all_goals first | rfl | (exfalso; omega))
theorem psPops (hB : RB h X R) (n : Nat) : RB (putH h ⟨X, 80, none⟩ (.int .i64 (n : Int))) X { R with pops := n } :=
  (hB.putA 80 _).cong (arr_ext fun j hj => by
    by_cases e : j = 80
    · subst e; simp [rcell]
    · rw [if_neg e]; unfold rcell; simp only []; repeat' split
      all_goals first | rfl | (exfalso; omega))
end rl
/-- what the arrays say of the list -/
structure RelP (R : RC) (L : List It) : Prop where
  top : R.top = L.length
  stk : ∀ i, i < L.length → R.stk i = (L.getD i ⟨0, 0, 0⟩).lit
  val : ∀ v : Nat, v ≤ 12 → R.val v = valV L v
  lev : ∀ v : Nat, v ≤ 12 → R.lev v = levV L v
  rea : ∀ v : Nat, v ≤ 12 → R.rea v = reaV L v
  pla : ∀ v : Nat, v ≤ 12 → R.pla v = plaV L v
structure Rel (R : RC) (L : List It) (k c p : Nat) : Prop where
  r : RelP R L
  dep : R.dep = k
  cur : R.cur = c
  pops : R.pops = p
  lim : ∀ j : Nat, 1 ≤ j → j ≤ k → R.lim j = cnt L j
  ti : TI L k c
structure RT (h : Heap) (X : Nat) (R : RC) (L : List It) (k c p : Nat) : Prop where
  b : RB h X R
  r : Rel R L k c p
theorem RT.ext {h h' : Heap} {X : Nat} {R : RC} {L : List It} {k c p : Nat} {S : Nat → Prop} (r : RT h X R L k c p) (he : Ext S h h') (hs : ¬ S X) : RT h' X R L k c p := ⟨r.b.ext he hs, r.r⟩
def joinR (R : RC) (l : Int) (v : Nat) (r : Int) : RC := { R with stk := up R.stk R.top l, val := up R.val v (if l < 0 then -1 else 1), lev := up R.lev v R.dep, rea := up R.rea v r, pla := up R.pla v R.top, top := R.top + 1 }
theorem vr_abs (l : Int) : vr l = (l.natAbs : Int) := by unfold vr; split <;> omega
theorem RelP.join {R : RC} {L : List It} {l r : Int} (h : RelP R L) (hn : New L (vr l)) : RelP (joinR R l l.natAbs r) (L ++ [⟨l, R.dep, r⟩]) := by
  have ev : ∀ v : Nat, v = l.natAbs ↔ (v : Int) = vr l := fun v => by rw [vr_abs]; omega
  refine ⟨by simp [joinR, h.top], fun i hi => ?_, fun v hv => ?_, fun v hv => ?_, fun v hv => ?_, fun v hv => ?_⟩
  · simp only [joinR]
    rw [List.length_append, List.length_singleton] at hi
    by_cases e : i = L.length
    · rw [e, h.top, up_self]; simp
    · rw [h.top, up_ne e, h.stk i (by omega)]
      have hlt : i < L.length := by omega
      simp [List.getElem?_append_left hlt]
  · rw [valV_app (x := ⟨l, R.dep, r⟩) hn]; simp only [joinR]
    by_cases e : v = l.natAbs
    · rw [e, up_self, if_pos ((ev _).1 rfl)]
    · rw [up_ne e, if_neg (fun x => e ((ev v).2 x)), h.val v hv]
  · rw [levV_app (x := ⟨l, R.dep, r⟩) hn]; simp only [joinR]
    by_cases e : v = l.natAbs
    · rw [e, up_self, if_pos ((ev _).1 rfl)]
    · rw [up_ne e, if_neg (fun x => e ((ev v).2 x)), h.lev v hv]
  · rw [reaV_app (x := ⟨l, R.dep, r⟩) hn]; simp only [joinR]
    by_cases e : v = l.natAbs
    · rw [e, up_self, if_pos ((ev _).1 rfl)]
    · rw [up_ne e, if_neg (fun x => e ((ev v).2 x)), h.rea v hv]
  · rw [plaV_app (x := ⟨l, R.dep, r⟩) hn]; simp only [joinR]
    by_cases e : v = l.natAbs
    · rw [e, up_self, if_pos ((ev _).1 rfl), h.top]
    · rw [up_ne e, if_neg (fun x => e ((ev v).2 x)), h.pla v hv]
def popR (R : RC) (v : Nat) : RC := { R with top := R.top - 1, val := up R.val v 0, lev := up R.lev v (-1), rea := up R.rea v (-1), pla := up R.pla v (-1), pops := R.pops + 1 }
theorem RelP.pop {R : RC} {L : List It} {x : It} (h : RelP R (L ++ [x])) (hn : New L (vr x.lit)) : RelP (popR R x.lit.natAbs) L := by
  have ev : ∀ v : Nat, v = x.lit.natAbs ↔ (v : Int) = vr x.lit := fun v => by rw [vr_abs]; omega
  have nv := new_val hn
  have ex : (x.lit.natAbs : Int) = vr x.lit := (vr_abs _).symm
  refine ⟨by simp [popR, h.top], fun i hi => ?_, fun v hv => ?_, fun v hv => ?_, fun v hv => ?_, fun v hv => ?_⟩
  · simp only [popR]
    rw [h.stk i (by simp; omega)]
    simp [List.getElem?_append_left hi]
  · simp only [popR]
    by_cases e : v = x.lit.natAbs
    · rw [e, up_self, ex, nv.1]
    · rw [up_ne e, h.val v hv, valV_app hn, if_neg (fun y => e ((ev v).2 y))]
  · simp only [popR]
    by_cases e : v = x.lit.natAbs
    · rw [e, up_self, ex, nv.2.1]
    · rw [up_ne e, h.lev v hv, levV_app hn, if_neg (fun y => e ((ev v).2 y))]
  · simp only [popR]
    by_cases e : v = x.lit.natAbs
    · rw [e, up_self, ex, nv.2.2.1]
    · rw [up_ne e, h.rea v hv, reaV_app hn, if_neg (fun y => e ((ev v).2 y))]
  · simp only [popR]
    by_cases e : v = x.lit.natAbs
    · rw [e, up_self, ex, nv.2.2.2]
    · rw [up_ne e, h.pla v hv, plaV_app hn, if_neg (fun y => e ((ev v).2 y))]
end Go.Proofs.Qxb6500401aGreat
