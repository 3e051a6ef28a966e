import Derived.Test.Qxb6500401aGreatTb
import Derived.Test.Qxb6500401aGreatWd
import Derived.Test.Qxb6500401aGreatLv
import Derived.Test.Qxb6500401aGreatEm
set_option linter.unusedVariables false
set_option linter.unusedSimpArgs false
namespace Go.Proofs.Qxb6500401aGreat
open Go.Eng Go.Trl Go.Chk Go.Wat

def wcell (X : Nat) (W : WC) (j : Nat) : Value := if j = 0 then .pointer (some ⟨X, 0, none⟩) else if j < 625 then .int .i64 (W.lits (j - 1)) else if j < 677 then .int .i64 (W.size (j - 625) : Int) else if j = 677 then .int .u64 (W.used : Int) else if j = 678 then .int .u64 (W.fresh : Int) else if j = 679 then .int .u64 (W.weak : Int) else if j < 706 then .int .u64 (W.list (j - 680) : Int) else .int .i64 (W.vis : Int)
def upN (f : Nat → Nat) (v : Nat) (x : Nat) : Nat → Nat := fun u => if u = v then x else f u
theorem upN_self (f : Nat → Nat) (v x : Nat) : upN f v x v = x := by simp [upN]
theorem upN_ne {f : Nat → Nat} {u v x : Nat} (h : u ≠ v) : upN f v x u = f u := by simp [upN, h]
abbrev WB (h : Heap) (C X : Nat) (W : WC) : Prop := B h C (arr 707 (wcell X W)) 78
section wl
variable {h : Heap} {C X : Nat} {W : WC}
theorem wlT (hB : WB h C X W) : cellH h ⟨C, 0, none⟩ = some (.pointer (some ⟨X, 0, none⟩)) := by rw [hB.cellA (by omega)]; simp [wcell]
theorem wlLit (hB : WB h C X W) (i : Nat) (hi : i < 624) : cellH h ⟨C, 1 + i, none⟩ = some (.int .i64 (W.lits i)) := by
  rw [hB.cellA (by omega)]; unfold wcell; rw [if_neg (by omega), if_pos (by omega), show 1 + i - 1 = i by omega]
theorem wlSize (hB : WB h C X W) (i : Nat) (hi : i < 52) : cellH h ⟨C, 625 + i, none⟩ = some (.int .i64 (W.size i : Int)) := by
  rw [hB.cellA (by omega)]; unfold wcell; rw [if_neg (by omega), if_neg (by omega), if_pos (by omega), show 625 + i - 625 = i by omega]
theorem wlUsed (hB : WB h C X W) : cellH h ⟨C, 677, none⟩ = some (.int .u64 (W.used : Int)) := by rw [hB.cellA (by omega)]; simp [wcell]
theorem wlFresh (hB : WB h C X W) : cellH h ⟨C, 678, none⟩ = some (.int .u64 (W.fresh : Int)) := by rw [hB.cellA (by omega)]; simp [wcell]
theorem wlWeak (hB : WB h C X W) : cellH h ⟨C, 679, none⟩ = some (.int .u64 (W.weak : Int)) := by rw [hB.cellA (by omega)]; simp [wcell]
theorem wlList (hB : WB h C X W) (i : Nat) (hi : i < 26) : cellH h ⟨C, 680 + i, none⟩ = some (.int .u64 (W.list i : Int)) := by
  rw [hB.cellA (by omega)]; unfold wcell
  rw [if_neg (by omega), if_neg (by omega), if_neg (by omega), if_neg (by omega), if_neg (by omega), if_neg (by omega), if_pos (by omega), show 680 + i - 680 = i by omega]
theorem wlVis (hB : WB h C X W) : cellH h ⟨C, 706, none⟩ = some (.int .i64 (W.vis : Int)) := by rw [hB.cellA (by omega)]; simp [wcell]
theorem wok (hB : WB h C X W) (j : Nat) (hj : j < 707) : okPut h ⟨C, j, none⟩ = true := hB.okA hj
theorem wsLit (hB : WB h C X W) (i : Nat) (x : Int) (hi : i < 624) : WB (putH h ⟨C, 1 + i, none⟩ (.int .i64 x)) C X { W with lits := upI W.lits i x } :=
  (hB.putA (1 + i) _).cong (arr_ext fun j hj => by
    by_cases e : j = 1 + i
    · subst e; simp only [wcell, upI, if_true, show 1 + i - 1 = i by omega]; rw [if_neg (by omega), if_pos (by omega)]
    · rw [if_neg e]; unfold wcell upI; simp only []; repeat' split
      all_goals first | rfl | (exfalso; omega))
theorem wsSize (hB : WB h C X W) (i : Nat) (x : Nat) (hi : i < 52) : WB (putH h ⟨C, 625 + i, none⟩ (.int .i64 (x : Int))) C X { W with size := upN W.size i x } :=
  (hB.putA (625 + i) _).cong (arr_ext fun j hj => by
    by_cases e : j = 625 + i
    · subst e; simp only [wcell, upN, if_true, show 625 + i - 625 = i by omega]; rw [if_neg (by omega), if_neg (by omega), if_pos (by omega)]
    · rw [if_neg e]; unfold wcell upN; simp only []; repeat' split
      all_goals first | rfl | (exfalso; omega))
theorem wsList (hB : WB h C X W) (i : Nat) (x : Nat) (hi : i < 26) : WB (putH h ⟨C, 680 + i, none⟩ (.int .u64 (x : Int))) C X { W with list := upN W.list i x } :=
  (hB.putA (680 + i) _).cong (arr_ext fun j hj => by
    by_cases e : j = 680 + i
    · subst e; simp only [wcell, upN, if_true, show 680 + i - 680 = i by omega]
      rw [if_neg (by omega), if_neg (by omega), if_neg (by omega), if_neg (by omega), if_neg (by omega), if_neg (by omega), if_pos (by omega)]
    · rw [if_neg e]; unfold wcell upN; simp only []; repeat' split
      all_goals first | rfl | (exfalso; omega))
theorem wsUsed (hB : WB h C X W) (x : Nat) : WB (putH h ⟨C, 677, none⟩ (.int .u64 (x : Int))) C X { W with used := x } :=
  (hB.putA 677 _).cong (arr_ext fun j hj => by
    by_cases e : j = 677
    · subst e; simp [wcell]
    · rw [if_neg e]; unfold wcell; simp only []; repeat' split
      all_goals first | rfl | (exfalso; omega))
theorem wsFresh (hB : WB h C X W) (x : Nat) : WB (putH h ⟨C, 678, none⟩ (.int .u64 (x : Int))) C X { W with fresh := x } :=
  (hB.putA 678 _).cong (arr_ext fun j hj => by
    by_cases e : j = 678
    · subst e; simp [wcell]
    · rw [if_neg e]; unfold wcell; simp only []; repeat' split
      all_goals first | rfl | (exfalso; omega))
theorem wsWeak (hB : WB h C X W) (x : Nat) : WB (putH h ⟨C, 679, none⟩ (.int .u64 (x : Int))) C X { W with weak := x } :=
  (hB.putA 679 _).cong (arr_ext fun j hj => by
    by_cases e : j = 679
    · subst e; simp [wcell]
    · rw [if_neg e]; unfold wcell; simp only []; repeat' split
      all_goals first | rfl | (exfalso; omega))
theorem wsVis (hB : WB h C X W) (x : Nat) : WB (putH h ⟨C, 706, none⟩ (.int .i64 (x : Int))) C X { W with vis := x } :=
  (hB.putA 706 _).cong (arr_ext fun j hj => by
    by_cases e : j = 706
    · subst e; simp [wcell]
    · rw [if_neg e]; unfold wcell; simp only []; repeat' split
      all_goals first | rfl | (exfalso; omega))
end wl
/-! ### the views -/
theorem vw_eq {W W' : WC} {i : Nat} (h1 : W'.used.testBit i = W.used.testBit i) (h2 : W'.fresh.testBit i = W.fresh.testBit i) (h3 : W'.weak.testBit i = W.weak.testBit i) (h4 : W'.size i = W.size i) (h5 : ∀ j, j < 12 → W'.lits (i * 12 + j) = W.lits (i * 12 + j)) (h6 : ∀ q, q < 26 → (W'.list q).testBit i = (W.list q).testBit i) : vw W' i = vw W i := by
  unfold vw
  rw [h1, h2, h3, h4]
  congr 1
  · funext j; split
    · rename_i e; exact h5 j e
    · rfl
  · funext q; split
    · rename_i e; exact h6 q e
    · rfl
theorem upI_slot {f : Nat → Int} {i id j j0 : Nat} {x : Int} (hi : i ≠ id) (hj : j < 12) (hj0 : j0 < 12) : upI f (id * 12 + j0) x (i * 12 + j) = f (i * 12 + j) := upI_ne (by omega)
theorem upI_in {f : Nat → Int} {id j j0 : Nat} {x : Int} : upI f (id * 12 + j0) x (id * 12 + j) = if j = j0 then x else f (id * 12 + j) := by
  unfold upI; by_cases e : j = j0
  · rw [if_pos (by omega), if_pos e]
  · rw [if_neg (by omega), if_neg e]
theorem or_bit (a i j : Nat) : (a ||| 2 ^ i).testBit j = (a.testBit j || decide (i = j)) := by rw [Nat.testBit_or, two_bit]
theorem wo_bit2 (a i j : Nat) : (wo a (2 ^ i)).testBit j = (a.testBit j && !decide (i = j)) := by rw [wo_bit, two_bit]
theorem or_ne {a i j : Nat} (h : j ≠ i) : (a ||| 2 ^ i).testBit j = a.testBit j := by rw [or_bit]; simp; omega
theorem wo_ne {a i j : Nat} (h : j ≠ i) : (wo a (2 ^ i)).testBit j = a.testBit j := by rw [wo_bit2]; simp; omega
theorem p52 {i : Nat} (h : i < 52) : 2 ^ i < 4503599627370496 := Nat.pow_lt_pow_right (n := 52) (by omega) h
theorem or52 {a b : Nat} (ha : a < 4503599627370496) (hb : b < 4503599627370496) : a ||| b < 4503599627370496 := Nat.or_lt_two_pow (n := 52) ha hb
theorem wo52 {a b : Nat} (ha : a < 4503599627370496) : wo a b < 4503599627370496 := wo_lt (n := 52) ha
theorem t52 {a : Nat} (h : a < 4503599627370496) : a < top .u64 := Nat.lt_of_lt_of_le h (by decide)
theorem b52 {a : Nat} (h : a < 4503599627370496) : a < 2 ^ IntKind.u64.bits := Nat.lt_of_lt_of_le h (by decide)
/-! ### rows of numbers -/
theorem ints_one (l : List Int) : ∀ v ∈ ints l, v.oneCell' = true := by intro v hv; simp only [ints, List.mem_map] at hv; obtain ⟨x, _, rfl⟩ := hv; rfl
theorem ints_app (l l' : List Int) : ints (l ++ l') = ints l ++ ints l' := by simp [ints]
def IL (h : Heap) (a : Option Addr) (cap : Nat) (l : List Int) : Prop := OwnR 0 h a l.length cap (ints l) 3 1
theorem IL.get {h : Heap} {a : Option Addr} {cap : Nat} {l : List Int} (ho : IL h a cap l) (hl : 0 < l.length) :
    ∃ b, a = some ⟨b, 0, none⟩ ∧ b < h.size ∧ (∀ j, j < l.length → cellH h ⟨b, j, none⟩ = some (.int .i64 (l.getD j 0))) ∧ ∀ j, j < cap → okPut h ⟨b, j, none⟩ = true := by
  obtain ⟨b, h1, _, h2, h3, h4⟩ := OwnR.some ho hl
  refine ⟨b, h1, h2, fun j hj => ?_, fun j hj => h4 j (by omega)⟩
  rw [h3 j (by rw [ints_len]; exact hj)]
  simp [ints, hj]
theorem IL.ext {h h' : Heap} {a : Option Addr} {cap : Nat} {l : List Int} {S : Nat → Prop} (ho : IL h a cap l) (he : Ext S h h') (hS : ∀ b, blkA a = some b → ¬ S b) : IL h' a cap l :=
  OwnR.ext ho he (fun b hb => hS b (by rw [hb]; rfl))
theorem IL.lt {h : Heap} {a : Option Addr} {cap b : Nat} {l : List Int} (ho : IL h a cap l) (hb : blkA a = some b) : b < h.size := (OwnR.blk2 ho hb).2
theorem IL.nil (h : Heap) : IL h none 0 [] := OwnR.nil _ _ _ _
theorem IL.cap {h : Heap} {a : Option Addr} {cap : Nat} {l : List Int} (ho : IL h a cap l) : l.length ≤ cap := (OwnR.len ho).2
theorem IL.new {h : Heap} {b : Nat} {l : List Int} (hb : B h b (arr l.length fun j => .int .i64 (l.getD j 0)) 3) : IL h (some ⟨b, 0, none⟩) l.length l :=
  .inr ⟨b, _, rfl, Nat.zero_le _, hb, by rw [arr_size, Nat.mul_one], Nat.le_refl _, by simp [ints_len], fun j hj => by rw [ints_len] at hj; rw [arr_get hj]; simp [ints, hj]⟩
theorem IL.at {h : Heap} {bb cap : Nat} {xs : List Int} (ho : IL h (some ⟨bb, 0, none⟩) cap xs) {j : Nat} (hj : j < xs.length) : cellH h ⟨bb, j, none⟩ = some (.int .i64 (xs.getD j 0)) := by
  obtain ⟨b2, e, _, hg, _⟩ := ho.get (by omega)
  cases e; exact hg j hj
theorem getD_snoc (l : List Int) (i : Nat) (h : i < l.length) : l.take (i + 1) = l.take i ++ [l.getD i 0] := by
  rw [List.take_add_one]; simp [h]
theorem mem_take_snoc {l : List Int} {i : Nat} {x : Int} (h : i < l.length) : x ∈ l.take (i + 1) ↔ x ∈ l.take i ∨ x = l.getD i 0 := by rw [getD_snoc l i h]; simp
theorem mem_at {xs : List Int} {i : Nat} (h : i < xs.length) : xs.getD i 0 ∈ xs := by
  rw [List.getD_eq_getElem?_getD, List.getElem?_eq_getElem h]; exact List.getElem_mem h
theorem OwnR_up {lo lo' : Nat} {h : Heap} {a : Option Addr} {k cap : Nat} {xs : List Value} {e : TypeId} {size : Nat} (hl : lo' ≤ lo) (ho : OwnR lo h a k cap xs e size) : OwnR lo' h a k cap xs e size := by
  rcases ho with h1 | ⟨b, cs, h1, h3, h2⟩
  · exact .inl h1
  · exact .inr ⟨b, cs, h1, by omega, h2⟩
theorem own0 {lo : Nat} {h : Heap} {a : Option Addr} {k cap : Nat} {xs : List Value} {e : TypeId} {size : Nat} (ho : OwnR lo h a k cap xs e size) : OwnR 0 h a k cap xs e size := OwnR_up (Nat.zero_le _) ho
theorem gd_getD {c : List Int} (h : ∀ l ∈ c, gd l) {k : Nat} (hk : k < c.length) : gd (c.getD k 0) := h _ (mem_at hk)
end Go.Proofs.Qxb6500401aGreat
