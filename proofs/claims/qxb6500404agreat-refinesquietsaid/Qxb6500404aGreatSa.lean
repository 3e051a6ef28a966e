import Derived.Test.Qxb6500404aGreatTb
import Derived.Test.Qxb6500404aGreatEm
import Derived.Test.Qxb6500404aGreatHh
set_option linter.unusedVariables false
set_option linter.unusedSimpArgs false
namespace Go.Proofs.Qxb6500404aGreat.HufW
open Go.Eng Go.Huf

/-! ### rows of numbers -/
def ints (l : List Int) : List Value := l.map (Value.int .i64)
theorem ints_len (l : List Int) : (ints l).length = l.length := by simp [ints]
theorem ints_snoc (l : List Int) (x : Int) : ints (l ++ [x]) = ints l ++ [.int .i64 x] := by simp [ints]
theorem ints_one (l : List Int) : ∀ v ∈ ints l, v.oneCell' = true := by intro v hv; simp only [ints, List.mem_map] at hv; obtain ⟨x, _, rfl⟩ := hv; rfl
theorem ints_app (l l' : List Int) : ints (l ++ l') = ints l ++ ints l' := by simp [ints]
def IL (h : Heap) (a : Option Addr) (cap : Nat) (l : List Int) : Prop := OwnR 0 h a l.length cap (ints l) 3 1
theorem IL.get {h : Heap} {a : Option Addr} {cap : Nat} {l : List Int} (ho : IL h a cap l) (hl : 0 < l.length) :
    ∃ b, a = some ⟨b, 0, none⟩ ∧ b < h.size ∧ (∀ j, j < l.length → cellH h ⟨b, j, none⟩ = some (.int .i64 (l.getD j 0))) ∧ ∀ j, j < cap → okPut h ⟨b, j, none⟩ = true := by
  obtain ⟨b, h1, _, h2, h3, h4⟩ := OwnR.some ho hl
  refine ⟨b, h1, h2, fun j hj => ?_, fun j hj => h4 j (by omega)⟩
  rw [h3 j (by rw [ints_len]; exact hj)]
  simp [ints, hj]
theorem IL.ext {h h' : Heap} {a : Option Addr} {cap : Nat} {l : List Int} {S : Nat → Prop} (ho : IL h a cap l) (he : Ext S h h') (hS : ∀ b, blkA a = some b → ¬ S b) : IL h' a cap l :=
  OwnR.ext ho he (fun b hb => hS b (by rw [hb]; rfl))
theorem IL.lt {h : Heap} {a : Option Addr} {cap b : Nat} {l : List Int} (ho : IL h a cap l) (hb : blkA a = some b) : b < h.size := (OwnR.blk2 ho hb).2
theorem IL.nil (h : Heap) : IL h none 0 [] := OwnR.nil _ _ _ _
theorem IL.cap {h : Heap} {a : Option Addr} {cap : Nat} {l : List Int} (ho : IL h a cap l) : l.length ≤ cap := (OwnR.len ho).2
theorem IL.new {h : Heap} {b : Nat} {l : List Int} (hb : B h b (arr l.length fun j => .int .i64 (l.getD j 0)) 3) : IL h (some ⟨b, 0, none⟩) l.length l :=
  .inr ⟨b, _, rfl, Nat.zero_le _, hb, by rw [arr_size, Nat.mul_one], Nat.le_refl _, by simp [ints_len], fun j hj => by rw [ints_len] at hj; rw [arr_get hj]; simp [ints, hj]⟩
theorem IL.at {h : Heap} {bb cap : Nat} {xs : List Int} (ho : IL h (some ⟨bb, 0, none⟩) cap xs) {j : Nat} (hj : j < xs.length) : cellH h ⟨bb, j, none⟩ = some (.int .i64 (xs.getD j 0)) := by
  obtain ⟨b2, e, _, hg, _⟩ := ho.get (by omega)
  cases e; exact hg j hj
theorem getD_snoc (l : List Int) (i : Nat) (h : i < l.length) : l.take (i + 1) = l.take i ++ [l.getD i 0] := by
  rw [List.take_add_one]; simp [h]
theorem mem_take_snoc {l : List Int} {i : Nat} {x : Int} (h : i < l.length) : x ∈ l.take (i + 1) ↔ x ∈ l.take i ∨ x = l.getD i 0 := by rw [getD_snoc l i h]; simp
theorem mem_at {xs : List Int} {i : Nat} (h : i < xs.length) : xs.getD i 0 ∈ xs := by
  rw [List.getD_eq_getElem?_getD, List.getElem?_eq_getElem h]; exact List.getElem_mem h

theorem OwnR_up {lo lo' : Nat} {h : Heap} {a : Option Addr} {k cap : Nat} {xs : List Value} {e : TypeId} {size : Nat} (hl : lo' ≤ lo) (ho : OwnR lo h a k cap xs e size) : OwnR lo' h a k cap xs e size := by
  rcases ho with q | ⟨b, cs, h1, h2, h3⟩
  · exact .inl q
  · exact .inr ⟨b, cs, h1, by omega, h3⟩
theorem own0 {lo : Nat} {h : Heap} {a : Option Addr} {cap : Nat} {xs : List Int} (ho : OwnR lo h a xs.length cap (ints xs) 3 1) : IL h a cap xs := OwnR_up (Nat.zero_le _) ho

/-- a list that is only read: it may begin anywhere in its block -/
def OL (h : Heap) (a : Option Addr) (_cap : Nat) (l : List Int) : Prop := (a = none ∧ l = []) ∨ ∃ b o cs, a = some ⟨b, o, none⟩ ∧ B h b cs 3 ∧ o + l.length ≤ cs.size ∧ ∀ j, j < l.length → cs[o + j]? = some (Value.int .i64 (l.getD j 0))
theorem OL.get {h : Heap} {a : Option Addr} {cap : Nat} {l : List Int} (ho : OL h a cap l) (hl : 0 < l.length) : ∃ b o, a = some ⟨b, o, none⟩ ∧ b < h.size ∧ ∀ j, j < l.length → cellH h ⟨b, o + j, none⟩ = some (.int .i64 (l.getD j 0)) := by
  rcases ho with ⟨_, e⟩ | ⟨b, o, cs, e, hb, hs, hc⟩
  · rw [e] at hl; simp at hl
  · refine ⟨b, o, e, hb.lt, fun j hj => ?_⟩
    rw [hb.cell, hc j hj]
theorem OL.ext {h h' : Heap} {a : Option Addr} {cap : Nat} {l : List Int} {S : Nat → Prop} (ho : OL h a cap l) (he : Ext S h h') (hS : ∀ b, blkA a = some b → ¬ S b) : OL h' a cap l := by
  rcases ho with q | ⟨b, o, cs, e, hb, hs, hc⟩
  · exact .inl q
  · exact .inr ⟨b, o, cs, e, hb.ext he (hS b (by rw [e]; rfl)), hs, hc⟩
theorem OL.lt {h : Heap} {a : Option Addr} {cap b : Nat} {l : List Int} (ho : OL h a cap l) (hb : blkA a = some b) : b < h.size := by
  rcases ho with ⟨e, _⟩ | ⟨b2, o, cs, e, h2, _⟩
  · rw [e] at hb; cases hb
  · rw [e] at hb; cases hb; exact h2.lt
theorem OL.of {h : Heap} {b : Nat} {cs : Array Value} (hb : B h b cs 3) (o cap : Nat) (l : List Int) (hs : o + l.length ≤ cs.size) (hc : ∀ j, j < l.length → cs[o + j]? = some (Value.int .i64 (l.getD j 0))) : OL h (some ⟨b, o, none⟩) cap l := .inr ⟨b, o, cs, rfl, hb, hs, hc⟩
theorem IL.OL {h : Heap} {a : Option Addr} {cap : Nat} {l : List Int} (ho : IL h a cap l) (c2 : Nat) : OL h a c2 l := by
  rcases ho with ⟨h1, h2, h3, h4⟩ | ⟨b, cs, h1, h2, h3, h4, h5, h6, h7⟩
  · exact .inl ⟨h1, List.eq_nil_of_length_eq_zero (by omega)⟩
  · refine .inr ⟨b, 0, cs, h1, h3, by rw [ints_len] at h6; omega, fun j hj => ?_⟩
    rw [Nat.zero_add, h7 j (by rw [ints_len]; exact hj)]; simp [ints, hj]
theorem OL.cells {h : Heap} {a : Option Addr} {cap : Nat} {l : List Int} (ho : OL h a cap l) {c2 : Nat} : srcV h 1 l.length (.slice a l.length c2) = some (ints l) := by
  rcases ho with ⟨e1, e2⟩ | ⟨b, o, cs, e, hb, hs, hc⟩
  · rw [e1, e2]; rfl
  · rw [e]
    simp only [srcV]
    rw [cellsH_blk (o := o) hb (l.length * 1) 0 (by omega)]
    congr 1
    apply List.ext_getElem?
    intro j
    rw [List.getElem?_take]
    by_cases hj : j < l.length
    · rw [if_pos (by omega), List.getElem?_drop, show o + 0 + j = o + j by omega, Array.getElem?_toList, hc j hj]; simp [ints, hj]
    · rw [if_neg (by omega), List.getElem?_eq_none (by rw [ints_len]; omega)]
/-! ### fixed tables -/
def ia (n : Nat) (f : Nat → Nat) : Array Value := arr n fun j => .int .i64 (f j : Int)
def iz (n : Nat) (f : Nat → Int) : Array Value := arr n fun j => .int .i64 (f j)
theorem ia_put {h : Heap} {b n : Nat} {f : Nat → Nat} {t : TypeId} (hb : B h b (ia n f) t) (i x : Nat) : B (putH h ⟨b, i, none⟩ (.int .i64 (x : Int))) b (ia n (ups f i x)) t := (B.putA hb i _).cong (arr_ext fun j _ => by unfold ups; split <;> rfl)
theorem iz_put {h : Heap} {b n : Nat} {f : Nat → Int} {t : TypeId} (hb : B h b (iz n f) t) (i : Nat) (x : Int) : B (putH h ⟨b, i, none⟩ (.int .i64 x)) b (iz n (ups f i x)) t := (B.putA hb i _).cong (arr_ext fun j _ => by unfold ups; split <;> rfl)
theorem ia_at {h : Heap} {b n : Nat} {f : Nat → Nat} {t : TypeId} (hb : B h b (ia n f) t) : ∀ j, j < n → cellH h ⟨b, j, none⟩ = some (.int .i64 (f j : Int)) := fun j hj => B.cellA hb hj
theorem iz_at {h : Heap} {b n : Nat} {f : Nat → Int} {t : TypeId} (hb : B h b (iz n f) t) : ∀ j, j < n → cellH h ⟨b, j, none⟩ = some (.int .i64 (f j)) := fun j hj => B.cellA hb hj
theorem ia_ok {h : Heap} {b n : Nat} {f : Nat → Nat} {t : TypeId} (hb : B h b (ia n f) t) : ∀ j, j < n → okPut h ⟨b, j, none⟩ = true := fun j hj => B.okA hb hj
theorem iz_ok {h : Heap} {b n : Nat} {f : Nat → Int} {t : TypeId} (hb : B h b (iz n f) t) : ∀ j, j < n → okPut h ⟨b, j, none⟩ = true := fun j hj => B.okA hb hj
theorem ia_cong {h : Heap} {b n : Nat} {f g : Nat → Nat} {t : TypeId} (hb : B h b (ia n f) t) (e : ∀ j, j < n → f j = g j) : B h b (ia n g) t := hb.cong (arr_ext fun j hj => by rw [e j hj])
theorem iz_cong {h : Heap} {b n : Nat} {f g : Nat → Int} {t : TypeId} (hb : B h b (iz n f) t) (e : ∀ j, j < n → f j = g j) : B h b (iz n g) t := hb.cong (arr_ext fun j hj => by rw [e j hj])
/-! ### the real coder -/
structure HC where
  n : Nat
  lens : Nat → Nat
  code : Nat → Nat
  root : Nat → Int
  sub : Nat → Int
  top : Nat
  wt : Nat → Nat
  ht : Nat → Nat
  num : Nat → Nat
  par : Nat → Nat
  dep : Nat → Nat
  heap : Nat → Nat
  fill : Nat
def hcs (X : Nat) (u : HC) : Array Value := #[.int .i64 (u.n : Int), .slice (some ⟨X + 1, 0, none⟩) 265 265, .slice (some ⟨X + 2, 0, none⟩) 265 265, .slice (some ⟨X + 3, 0, none⟩) 64 64, .slice (some ⟨X + 4, 0, none⟩) 1024 1024, .int .i64 (u.top : Int), .slice (some ⟨X + 5, 0, none⟩) 529 529, .slice (some ⟨X + 6, 0, none⟩) 529 529, .slice (some ⟨X + 7, 0, none⟩) 529 529, .slice (some ⟨X + 8, 0, none⟩) 529 529, .slice (some ⟨X + 9, 0, none⟩) 529 529, .slice (some ⟨X + 10, 0, none⟩) 265 265, .int .i64 (u.fill : Int)]
structure CB (h : Heap) (X : Nat) (u : HC) : Prop where
  x : B h X (hcs X u) 70
  blens : B h (X + 1) (ia 265 u.lens) 3
  bcode : B h (X + 2) (ia 265 u.code) 3
  broot : B h (X + 3) (iz 64 u.root) 3
  bsub : B h (X + 4) (iz 1024 u.sub) 3
  bwt : B h (X + 5) (ia 529 u.wt) 3
  bht : B h (X + 6) (ia 529 u.ht) 3
  bnum : B h (X + 7) (ia 529 u.num) 3
  bpar : B h (X + 8) (ia 529 u.par) 3
  bdep : B h (X + 9) (ia 529 u.dep) 3
  bheap : B h (X + 10) (ia 265 u.heap) 3

def CT (X b : Nat) : Prop := X ≤ b ∧ b ≤ X + 10
theorem CB.ext {h h' : Heap} {X : Nat} {u : HC} {S : Nat → Prop} (c : CB h X u) (he : Ext S h h') (hs : ∀ b, CT X b → ¬ S b) : CB h' X u :=
  ⟨c.x.ext he (hs _ ⟨by omega, by omega⟩), c.blens.ext he (hs _ ⟨by omega, by omega⟩), c.bcode.ext he (hs _ ⟨by omega, by omega⟩), c.broot.ext he (hs _ ⟨by omega, by omega⟩), c.bsub.ext he (hs _ ⟨by omega, by omega⟩), c.bwt.ext he (hs _ ⟨by omega, by omega⟩), c.bht.ext he (hs _ ⟨by omega, by omega⟩), c.bnum.ext he (hs _ ⟨by omega, by omega⟩), c.bpar.ext he (hs _ ⟨by omega, by omega⟩), c.bdep.ext he (hs _ ⟨by omega, by omega⟩), c.bheap.ext he (hs _ ⟨by omega, by omega⟩)⟩
theorem CB.new {h h' : Heap} {X : Nat} {u : HC} (c : CB h X u) (he : Ext (fun _ => False) h h') : CB h' X u := c.ext he (fun _ _ f => f)
theorem CB.lt {h : Heap} {X : Nat} {u : HC} (c : CB h X u) : X + 10 < h.size := c.bheap.lt
theorem cq {h : Heap} {X : Nat} {u : HC} (c : CB h X u) : cellH h ⟨X, 0, none⟩ = some (.int .i64 (u.n : Int)) ∧ cellH h ⟨X, 1, none⟩ = some (.slice (some ⟨X + 1, 0, none⟩) 265 265) ∧ cellH h ⟨X, 2, none⟩ = some (.slice (some ⟨X + 2, 0, none⟩) 265 265) ∧ cellH h ⟨X, 3, none⟩ = some (.slice (some ⟨X + 3, 0, none⟩) 64 64) ∧ cellH h ⟨X, 4, none⟩ = some (.slice (some ⟨X + 4, 0, none⟩) 1024 1024) ∧ cellH h ⟨X, 5, none⟩ = some (.int .i64 (u.top : Int)) ∧ cellH h ⟨X, 6, none⟩ = some (.slice (some ⟨X + 5, 0, none⟩) 529 529) ∧ cellH h ⟨X, 7, none⟩ = some (.slice (some ⟨X + 6, 0, none⟩) 529 529) ∧ cellH h ⟨X, 8, none⟩ = some (.slice (some ⟨X + 7, 0, none⟩) 529 529) ∧ cellH h ⟨X, 9, none⟩ = some (.slice (some ⟨X + 8, 0, none⟩) 529 529) ∧ cellH h ⟨X, 10, none⟩ = some (.slice (some ⟨X + 9, 0, none⟩) 529 529) ∧ cellH h ⟨X, 11, none⟩ = some (.slice (some ⟨X + 10, 0, none⟩) 265 265) ∧ cellH h ⟨X, 12, none⟩ = some (.int .i64 (u.fill : Int)) := ⟨c.x.cell 0, c.x.cell 1, c.x.cell 2, c.x.cell 3, c.x.cell 4, c.x.cell 5, c.x.cell 6, c.x.cell 7, c.x.cell 8, c.x.cell 9, c.x.cell 10, c.x.cell 11, c.x.cell 12⟩
theorem ca {h : Heap} {X : Nat} {u : HC} (c : CB h X u) : (∀ j, j < 265 → cellH h ⟨X + 1, j, none⟩ = some (.int .i64 (u.lens j : Int))) ∧ (∀ j, j < 265 → cellH h ⟨X + 2, j, none⟩ = some (.int .i64 (u.code j : Int))) ∧ (∀ j, j < 64 → cellH h ⟨X + 3, j, none⟩ = some (.int .i64 (u.root j))) ∧ (∀ j, j < 1024 → cellH h ⟨X + 4, j, none⟩ = some (.int .i64 (u.sub j))) ∧ (∀ j, j < 529 → cellH h ⟨X + 5, j, none⟩ = some (.int .i64 (u.wt j : Int))) ∧ (∀ j, j < 529 → cellH h ⟨X + 6, j, none⟩ = some (.int .i64 (u.ht j : Int))) ∧ (∀ j, j < 529 → cellH h ⟨X + 7, j, none⟩ = some (.int .i64 (u.num j : Int))) ∧ (∀ j, j < 529 → cellH h ⟨X + 8, j, none⟩ = some (.int .i64 (u.par j : Int))) ∧ (∀ j, j < 529 → cellH h ⟨X + 9, j, none⟩ = some (.int .i64 (u.dep j : Int))) ∧ (∀ j, j < 265 → cellH h ⟨X + 10, j, none⟩ = some (.int .i64 (u.heap j : Int))) := ⟨ia_at c.blens, ia_at c.bcode, iz_at c.broot, iz_at c.bsub, ia_at c.bwt, ia_at c.bht, ia_at c.bnum, ia_at c.bpar, ia_at c.bdep, ia_at c.bheap⟩
theorem cok {h : Heap} {X : Nat} {u : HC} (c : CB h X u) : ∀ j, j < 13 → okPut h ⟨X, j, none⟩ = true := fun j hj => c.x.ok (by simpa [hcs] using hj)
theorem CB.pn {h : Heap} {X : Nat} {u : HC} (c : CB h X u) (x : Nat) : CB (putH h ⟨X, 0, none⟩ (.int .i64 (x : Int))) X { u with n := x } :=
  ⟨(c.x.put 0 _).cong (by simp [hcs]), c.blens.put_ne (by omega), c.bcode.put_ne (by omega), c.broot.put_ne (by omega), c.bsub.put_ne (by omega), c.bwt.put_ne (by omega), c.bht.put_ne (by omega), c.bnum.put_ne (by omega), c.bpar.put_ne (by omega), c.bdep.put_ne (by omega), c.bheap.put_ne (by omega)⟩
theorem CB.ptop {h : Heap} {X : Nat} {u : HC} (c : CB h X u) (x : Nat) : CB (putH h ⟨X, 5, none⟩ (.int .i64 (x : Int))) X { u with top := x } :=
  ⟨(c.x.put 5 _).cong (by simp [hcs]), c.blens.put_ne (by omega), c.bcode.put_ne (by omega), c.broot.put_ne (by omega), c.bsub.put_ne (by omega), c.bwt.put_ne (by omega), c.bht.put_ne (by omega), c.bnum.put_ne (by omega), c.bpar.put_ne (by omega), c.bdep.put_ne (by omega), c.bheap.put_ne (by omega)⟩
theorem CB.pfill {h : Heap} {X : Nat} {u : HC} (c : CB h X u) (x : Nat) : CB (putH h ⟨X, 12, none⟩ (.int .i64 (x : Int))) X { u with fill := x } :=
  ⟨(c.x.put 12 _).cong (by simp [hcs]), c.blens.put_ne (by omega), c.bcode.put_ne (by omega), c.broot.put_ne (by omega), c.bsub.put_ne (by omega), c.bwt.put_ne (by omega), c.bht.put_ne (by omega), c.bnum.put_ne (by omega), c.bpar.put_ne (by omega), c.bdep.put_ne (by omega), c.bheap.put_ne (by omega)⟩
theorem CB.plens {h : Heap} {X : Nat} {u : HC} (c : CB h X u) (i : Nat) (x : Nat) : CB (putH h ⟨X + 1, i, none⟩ (.int .i64 (x : Int))) X { u with lens := ups u.lens i x } :=
  ⟨c.x.put_ne (by omega), ia_put c.blens i x, c.bcode.put_ne (by omega), c.broot.put_ne (by omega), c.bsub.put_ne (by omega), c.bwt.put_ne (by omega), c.bht.put_ne (by omega), c.bnum.put_ne (by omega), c.bpar.put_ne (by omega), c.bdep.put_ne (by omega), c.bheap.put_ne (by omega)⟩
theorem CB.olens {h : Heap} {X : Nat} {u : HC} (c : CB h X u) : ∀ j, j < 265 → okPut h ⟨X + 1, j, none⟩ = true := ia_ok c.blens
theorem CB.pcode {h : Heap} {X : Nat} {u : HC} (c : CB h X u) (i : Nat) (x : Nat) : CB (putH h ⟨X + 2, i, none⟩ (.int .i64 (x : Int))) X { u with code := ups u.code i x } :=
  ⟨c.x.put_ne (by omega), c.blens.put_ne (by omega), ia_put c.bcode i x, c.broot.put_ne (by omega), c.bsub.put_ne (by omega), c.bwt.put_ne (by omega), c.bht.put_ne (by omega), c.bnum.put_ne (by omega), c.bpar.put_ne (by omega), c.bdep.put_ne (by omega), c.bheap.put_ne (by omega)⟩
theorem CB.ocode {h : Heap} {X : Nat} {u : HC} (c : CB h X u) : ∀ j, j < 265 → okPut h ⟨X + 2, j, none⟩ = true := ia_ok c.bcode
theorem CB.proot {h : Heap} {X : Nat} {u : HC} (c : CB h X u) (i : Nat) (x : Int) : CB (putH h ⟨X + 3, i, none⟩ (.int .i64 x)) X { u with root := ups u.root i x } :=
  ⟨c.x.put_ne (by omega), c.blens.put_ne (by omega), c.bcode.put_ne (by omega), iz_put c.broot i x, c.bsub.put_ne (by omega), c.bwt.put_ne (by omega), c.bht.put_ne (by omega), c.bnum.put_ne (by omega), c.bpar.put_ne (by omega), c.bdep.put_ne (by omega), c.bheap.put_ne (by omega)⟩
theorem CB.oroot {h : Heap} {X : Nat} {u : HC} (c : CB h X u) : ∀ j, j < 64 → okPut h ⟨X + 3, j, none⟩ = true := iz_ok c.broot
theorem CB.psub {h : Heap} {X : Nat} {u : HC} (c : CB h X u) (i : Nat) (x : Int) : CB (putH h ⟨X + 4, i, none⟩ (.int .i64 x)) X { u with sub := ups u.sub i x } :=
  ⟨c.x.put_ne (by omega), c.blens.put_ne (by omega), c.bcode.put_ne (by omega), c.broot.put_ne (by omega), iz_put c.bsub i x, c.bwt.put_ne (by omega), c.bht.put_ne (by omega), c.bnum.put_ne (by omega), c.bpar.put_ne (by omega), c.bdep.put_ne (by omega), c.bheap.put_ne (by omega)⟩
theorem CB.osub {h : Heap} {X : Nat} {u : HC} (c : CB h X u) : ∀ j, j < 1024 → okPut h ⟨X + 4, j, none⟩ = true := iz_ok c.bsub
theorem CB.pwt {h : Heap} {X : Nat} {u : HC} (c : CB h X u) (i : Nat) (x : Nat) : CB (putH h ⟨X + 5, i, none⟩ (.int .i64 (x : Int))) X { u with wt := ups u.wt i x } :=
  ⟨c.x.put_ne (by omega), c.blens.put_ne (by omega), c.bcode.put_ne (by omega), c.broot.put_ne (by omega), c.bsub.put_ne (by omega), ia_put c.bwt i x, c.bht.put_ne (by omega), c.bnum.put_ne (by omega), c.bpar.put_ne (by omega), c.bdep.put_ne (by omega), c.bheap.put_ne (by omega)⟩
theorem CB.owt {h : Heap} {X : Nat} {u : HC} (c : CB h X u) : ∀ j, j < 529 → okPut h ⟨X + 5, j, none⟩ = true := ia_ok c.bwt
theorem CB.pht {h : Heap} {X : Nat} {u : HC} (c : CB h X u) (i : Nat) (x : Nat) : CB (putH h ⟨X + 6, i, none⟩ (.int .i64 (x : Int))) X { u with ht := ups u.ht i x } :=
  ⟨c.x.put_ne (by omega), c.blens.put_ne (by omega), c.bcode.put_ne (by omega), c.broot.put_ne (by omega), c.bsub.put_ne (by omega), c.bwt.put_ne (by omega), ia_put c.bht i x, c.bnum.put_ne (by omega), c.bpar.put_ne (by omega), c.bdep.put_ne (by omega), c.bheap.put_ne (by omega)⟩
theorem CB.oht {h : Heap} {X : Nat} {u : HC} (c : CB h X u) : ∀ j, j < 529 → okPut h ⟨X + 6, j, none⟩ = true := ia_ok c.bht
theorem CB.pnum {h : Heap} {X : Nat} {u : HC} (c : CB h X u) (i : Nat) (x : Nat) : CB (putH h ⟨X + 7, i, none⟩ (.int .i64 (x : Int))) X { u with num := ups u.num i x } :=
  ⟨c.x.put_ne (by omega), c.blens.put_ne (by omega), c.bcode.put_ne (by omega), c.broot.put_ne (by omega), c.bsub.put_ne (by omega), c.bwt.put_ne (by omega), c.bht.put_ne (by omega), ia_put c.bnum i x, c.bpar.put_ne (by omega), c.bdep.put_ne (by omega), c.bheap.put_ne (by omega)⟩
theorem CB.onum {h : Heap} {X : Nat} {u : HC} (c : CB h X u) : ∀ j, j < 529 → okPut h ⟨X + 7, j, none⟩ = true := ia_ok c.bnum
theorem CB.ppar {h : Heap} {X : Nat} {u : HC} (c : CB h X u) (i : Nat) (x : Nat) : CB (putH h ⟨X + 8, i, none⟩ (.int .i64 (x : Int))) X { u with par := ups u.par i x } :=
  ⟨c.x.put_ne (by omega), c.blens.put_ne (by omega), c.bcode.put_ne (by omega), c.broot.put_ne (by omega), c.bsub.put_ne (by omega), c.bwt.put_ne (by omega), c.bht.put_ne (by omega), c.bnum.put_ne (by omega), ia_put c.bpar i x, c.bdep.put_ne (by omega), c.bheap.put_ne (by omega)⟩
theorem CB.opar {h : Heap} {X : Nat} {u : HC} (c : CB h X u) : ∀ j, j < 529 → okPut h ⟨X + 8, j, none⟩ = true := ia_ok c.bpar
theorem CB.pdep {h : Heap} {X : Nat} {u : HC} (c : CB h X u) (i : Nat) (x : Nat) : CB (putH h ⟨X + 9, i, none⟩ (.int .i64 (x : Int))) X { u with dep := ups u.dep i x } :=
  ⟨c.x.put_ne (by omega), c.blens.put_ne (by omega), c.bcode.put_ne (by omega), c.broot.put_ne (by omega), c.bsub.put_ne (by omega), c.bwt.put_ne (by omega), c.bht.put_ne (by omega), c.bnum.put_ne (by omega), c.bpar.put_ne (by omega), ia_put c.bdep i x, c.bheap.put_ne (by omega)⟩
theorem CB.odep {h : Heap} {X : Nat} {u : HC} (c : CB h X u) : ∀ j, j < 529 → okPut h ⟨X + 9, j, none⟩ = true := ia_ok c.bdep
theorem CB.pheap {h : Heap} {X : Nat} {u : HC} (c : CB h X u) (i : Nat) (x : Nat) : CB (putH h ⟨X + 10, i, none⟩ (.int .i64 (x : Int))) X { u with heap := ups u.heap i x } :=
  ⟨c.x.put_ne (by omega), c.blens.put_ne (by omega), c.bcode.put_ne (by omega), c.broot.put_ne (by omega), c.bsub.put_ne (by omega), c.bwt.put_ne (by omega), c.bht.put_ne (by omega), c.bnum.put_ne (by omega), c.bpar.put_ne (by omega), c.bdep.put_ne (by omega), ia_put c.bheap i x⟩
theorem CB.oheap {h : Heap} {X : Nat} {u : HC} (c : CB h X u) : ∀ j, j < 265 → okPut h ⟨X + 10, j, none⟩ = true := ia_ok c.bheap

theorem CB.pute {X : Nat} {h : Heap} {o i : Nat} {v : Value} (ho : o ≤ 10) : Ext (CT X) h (putH h ⟨X + o, i, none⟩ v) := Ext.put _ _ ⟨by omega, by omega⟩
theorem CB.putx {X : Nat} {h : Heap} {i : Nat} {v : Value} : Ext (CT X) h (putH h ⟨X, i, none⟩ v) := Ext.put _ _ ⟨by omega, by omega⟩
end Go.Proofs.Qxb6500404aGreat.HufW
