import Derived.Test.Qxb6500401aGreatXc
set_option linter.unusedVariables false
set_option linter.unusedSimpArgs false
namespace Go.Proofs.Qxb6500401aGreat
open Go.Eng Go.Trl Go.Chk Go.Wat

/-- the model's record -/
structure MC where
  used : Nat → Bool
  ca : Nat → Option Addr
  cn : Nat → Nat
  due : Nat → Bool
  seen : Nat
def mcel (Y : Nat) (m : MC) (j : Nat) : Value := if j = 0 then .pointer (some ⟨Y, 0, none⟩) else if j < 53 then .bool (m.used (j - 1)) else if j < 105 then .slice (m.ca (j - 53)) (m.cn (j - 53)) (m.cn (j - 53)) else if j < 157 then .bool (m.due (j - 105)) else if j = 157 then .int .i64 (m.seen : Int) else if j = 158 then .slice none 0 0 else .int .i64 0
def upB (f : Nat → Bool) (v : Nat) (x : Bool) : Nat → Bool := fun u => if u = v then x else f u
def upA (f : Nat → Option Addr) (v : Nat) (x : Option Addr) : Nat → Option Addr := fun u => if u = v then x else f u
abbrev MB (h : Heap) (M Y : Nat) (m : MC) : Prop := B h M (arr 162 (mcel Y m)) 0
section ml
variable {h : Heap} {M Y : Nat} {m : MC}
theorem mlT (hB : MB h M Y m) : cellH h ⟨M, 0, none⟩ = some (.pointer (some ⟨Y, 0, none⟩)) := by rw [hB.cellA (by omega)]; simp [mcel]
theorem mlUsed (hB : MB h M Y m) (i : Nat) (hi : i < 52) : cellH h ⟨M, 1 + i, none⟩ = some (.bool (m.used i)) := by
  rw [hB.cellA (by omega)]; unfold mcel; rw [if_neg (by omega), if_pos (by omega), show 1 + i - 1 = i by omega]
theorem mlCl (hB : MB h M Y m) (i : Nat) (hi : i < 52) : cellH h ⟨M, 53 + i, none⟩ = some (.slice (m.ca i) (m.cn i) (m.cn i)) := by
  rw [hB.cellA (by omega)]; unfold mcel; rw [if_neg (by omega), if_neg (by omega), if_pos (by omega), show 53 + i - 53 = i by omega]
theorem mlDue (hB : MB h M Y m) (i : Nat) (hi : i < 52) : cellH h ⟨M, 105 + i, none⟩ = some (.bool (m.due i)) := by
  rw [hB.cellA (by omega)]; unfold mcel; rw [if_neg (by omega), if_neg (by omega), if_neg (by omega), if_pos (by omega), show 105 + i - 105 = i by omega]
theorem mlSeen (hB : MB h M Y m) : cellH h ⟨M, 157, none⟩ = some (.int .i64 (m.seen : Int)) := by rw [hB.cellA (by omega)]; simp [mcel]
theorem mwok (hB : MB h M Y m) (j : Nat) (hj : j < 162) : okPut h ⟨M, j, none⟩ = true := hB.okA hj
theorem msUsed (hB : MB h M Y m) (i : Nat) (x : Bool) (hi : i < 52) : MB (putH h ⟨M, 1 + i, none⟩ (.bool x)) M Y { m with used := upB m.used i x } :=
  (hB.putA (1 + i) _).cong (arr_ext fun j hj => by
    by_cases e : j = 1 + i
    · subst e; simp only [mcel, upB, if_true, show 1 + i - 1 = i by omega]; rw [if_neg (by omega), if_pos (by omega)]
    · rw [if_neg e]; unfold mcel upB; simp only []; repeat' split
      all_goals first | rfl | (exfalso; omega))
theorem msCl (hB : MB h M Y m) (i : Nat) (a : Option Addr) (n : Nat) (hi : i < 52) : MB (putH h ⟨M, 53 + i, none⟩ (.slice a n n)) M Y { m with ca := upA m.ca i a, cn := upN m.cn i n } :=
  (hB.putA (53 + i) _).cong (arr_ext fun j hj => by
    by_cases e : j = 53 + i
    · subst e; simp only [mcel, upA, upN, if_true, show 53 + i - 53 = i by omega]; rw [if_neg (by omega), if_neg (by omega), if_pos (by omega)]
    · rw [if_neg e]; unfold mcel upA upN; simp only []; repeat' split
      all_goals first | rfl | (exfalso; omega))
theorem msDue (hB : MB h M Y m) (i : Nat) (x : Bool) (hi : i < 52) : MB (putH h ⟨M, 105 + i, none⟩ (.bool x)) M Y { m with due := upB m.due i x } :=
  (hB.putA (105 + i) _).cong (arr_ext fun j hj => by
    by_cases e : j = 105 + i
    · subst e; simp only [mcel, upB, if_true, show 105 + i - 105 = i by omega]; rw [if_neg (by omega), if_neg (by omega), if_neg (by omega), if_pos (by omega)]
    · rw [if_neg e]; unfold mcel upB; simp only []; repeat' split
      all_goals first | rfl | (exfalso; omega))
theorem msSeen (hB : MB h M Y m) (x : Nat) : MB (putH h ⟨M, 157, none⟩ (.int .i64 (x : Int))) M Y { m with seen := x } :=
  (hB.putA 157 _).cong (arr_ext fun j hj => by
    by_cases e : j = 157
    · subst e; simp [mcel]
    · rw [if_neg e]; unfold mcel; simp only []; repeat' split
      all_goals first | rfl | (exfalso; omega))
end ml
/-- the model's store: its clauses lie in blocks of G -/
structure MR (h : Heap) (m : MC) (cl : Nat → Option (List Int)) (G : Nat → Prop) : Prop where
  u : ∀ i, i < 52 → m.used i = (cl i).isSome
  z : ∀ i, i < 52 → cl i = none → m.ca i = none ∧ m.cn i = 0
  c : ∀ i, i < 52 → ∀ cc, cl i = some cc → Nrm cc ∧ m.cn i = cc.length ∧ IL h (m.ca i) cc.length cc
  g : ∀ i, i < 52 → ∀ b, blkA (m.ca i) = some b → G b
theorem MR.ext {h h' : Heap} {m : MC} {cl : Nat → Option (List Int)} {G : Nat → Prop} {S : Nat → Prop} (r : MR h m cl G) (he : Ext S h h') (hs : ∀ b, G b → ¬ S b) : MR h' m cl G :=
  ⟨r.u, r.z, fun i hi cc e => ⟨(r.c i hi cc e).1, (r.c i hi cc e).2.1, (r.c i hi cc e).2.2.ext he (fun b hb => hs b (r.g i hi b hb))⟩, r.g⟩
theorem MR.due {h : Heap} {m : MC} {cl : Nat → Option (List Int)} {G : Nat → Prop} (r : MR h m cl G) (d : Nat → Bool) (n : Nat) : MR h { m with due := d, seen := n } cl G := ⟨r.u, r.z, r.c, r.g⟩
theorem MR.put {h : Heap} {m : MC} {cl : Nat → Option (List Int)} {G G' : Nat → Prop} (r : MR h m cl G) {k : Nat} {cc : List Int} {a : Option Addr} (hn : Nrm cc) (hI : IL h a cc.length cc) (hG : ∀ b, G b → G' b) (ha : ∀ b, blkA a = some b → G' b) : MR h { m with used := upB m.used k true, ca := upA m.ca k a, cn := upN m.cn k cc.length } (upO cl k (some cc)) G' := by
  refine ⟨fun i hi => ?_, fun i hi e => ?_, fun i hi c2 e => ?_, fun i hi b e => ?_⟩ <;> by_cases z : i = k
  · simp only [upB, upO, if_pos z]; rfl
  · simp only [upB, upO, if_neg z]; exact r.u i hi
  · simp only [upO, if_pos z] at e; cases e
  · simp only [upO, if_neg z] at e; simp only [upA, upN, if_neg z]; exact r.z i hi e
  · simp only [upO, if_pos z] at e; simp only [upA, upN, if_pos z]; injection e with e; subst e; exact ⟨hn, rfl, hI⟩
  · simp only [upO, if_neg z] at e; simp only [upA, upN, if_neg z]; exact r.c i hi c2 e
  · simp only [upA, if_pos z] at e; exact ha b e
  · simp only [upA, if_neg z] at e; exact hG b (r.g i hi b e)
theorem MR.del {h : Heap} {m : MC} {cl : Nat → Option (List Int)} {G : Nat → Prop} (r : MR h m cl G) {k : Nat} : MR h { m with used := upB m.used k false, ca := upA m.ca k none, cn := upN m.cn k 0 } (upO cl k none) G := by
  refine ⟨fun i hi => ?_, fun i hi e => ?_, fun i hi c2 e => ?_, fun i hi b e => ?_⟩ <;> by_cases z : i = k
  · simp only [upB, upO, if_pos z]; rfl
  · simp only [upB, upO, if_neg z]; exact r.u i hi
  · simp only [upA, upN, if_pos z]; exact ⟨trivial, trivial⟩
  · simp only [upO, if_neg z] at e; simp only [upA, upN, if_neg z]; exact r.z i hi e
  · simp only [upO, if_pos z] at e; cases e
  · simp only [upO, if_neg z] at e; simp only [upA, upN, if_neg z]; exact r.c i hi c2 e
  · simp only [upA, if_pos z] at e; simp [blkA] at e
  · simp only [upA, if_neg z] at e; exact r.g i hi b e
/-- the model's side -/
structure MV (h : Heap) (M Y : Nat) (m : MC) (cl : Nat → Option (List Int)) (G F : Nat → Prop) (s : TS) : Prop where
  b : MB h M Y m
  r : MR h m cl G
  t : MS h Y F s
  nM : ¬ G M ∧ ¬ F M
  nG : ∀ b, G b → ¬ F b
  lt : ∀ b, G b → b < h.size
theorem MV.ext {h h' : Heap} {M Y : Nat} {m : MC} {cl : Nat → Option (List Int)} {G F : Nat → Prop} {s : TS} {S : Nat → Prop} (v : MV h M Y m cl G F s) (he : Ext S h h') (h1 : ¬ S M) (h2 : ∀ b, G b → ¬ S b) (h3 : ∀ b, F b → ¬ S b) : MV h' M Y m cl G F s :=
  ⟨v.b.ext he h1, v.r.ext he h2, v.t.ext he h3, v.nM, v.nG, fun b hb => Nat.lt_of_lt_of_le (v.lt b hb) he.1⟩
/-- the trail turns -/
theorem MV.trl {h h' : Heap} {M Y : Nat} {m : MC} {cl : Nat → Option (List Int)} {G F F' : Nat → Prop} {s s' : TS} (v : MV h M Y m cl G F s) (ht : MS h' Y F' s') (hx : MX F F' h h') : MV h' M Y m cl G F' s' := by
  refine ⟨v.b.ext hx.1 v.nM.2, v.r.ext hx.1 v.nG, ht, ⟨v.nM.1, fun e => ?_⟩, fun b hb e => ?_, fun b hb => Nat.lt_of_lt_of_le (v.lt b hb) hx.1.1⟩
  · rcases hx.2 M e with q | q
    · exact v.nM.2 q
    · have := v.b.lt; omega
  · rcases hx.2 b e with q | q
    · exact v.nG b hb q
    · have := v.lt b hb; omega
/-- the store's cells turn -/
theorem MV.set {h h' : Heap} {M Y : Nat} {m m' : MC} {cl cl' : Nat → Option (List Int)} {G F : Nat → Prop} {s : TS} (v : MV h M Y m cl G F s) (hb : MB h' M Y m') (hr : MR h' m' cl' G) (he : Ext (fun b => b = M) h h') : MV h' M Y m' cl' G F s :=
  ⟨hb, hr, v.t.ext he (fun b hb e => v.nM.2 (e ▸ hb)), v.nM, v.nG, fun b hb => Nat.lt_of_lt_of_le (v.lt b hb) he.1⟩
end Go.Proofs.Qxb6500401aGreat
