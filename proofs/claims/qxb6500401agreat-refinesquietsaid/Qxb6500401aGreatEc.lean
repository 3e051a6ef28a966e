import Derived.Test.Qxb6500401aGreatEb
import Derived.KernelRfl
set_option linter.unusedVariables false
set_option linter.unusedSimpArgs false
namespace Go.Eng

/-! ### frames as lists -/
abbrev Fr := List (Nat × Value)
def lk (t : Nat) : Fr → Option Value
  | [] => none
  | (k, v) :: r => if t = k then some v else lk t r
def E (l : Fr) : Env := fun t => lk t l
def proj : List Nat → Fr → Fr
  | [], _ => []
  | t :: r, l => match lk t l with
    | some v => (t, v) :: proj r l
    | none => proj r l
def Sub (env : Env) (l : Fr) : Prop := ∀ t v, lk t l = some v → env t = some v

theorem Sub.refl (l : Fr) : Sub (E l) l := fun _ _ h => h
theorem proj_sub (l : Fr) : ∀ ks t v, lk t (proj ks l) = some v → lk t l = some v
  | [], t, v, h => by simp [proj, lk] at h
  | k :: ks, t, v, h => by
    simp only [proj] at h
    split at h
    · rename_i u hu
      simp only [lk] at h
      split at h
      · rename_i e; subst e; simp only [Option.some.injEq] at h; subst h; exact hu
      · exact proj_sub l ks t v h
    · exact proj_sub l ks t v h

abbrev Ko := Fr → Heap → Prop

/-! ### regions -/
def S (P : Program) (ops : List Oper) (K : Ko) (os : List Oper) (l : Fr) (h : Heap) : Prop :=
  regL P ops.toArray (fun env h => ∃ l, Sub env l ∧ K l h) os (E l) h

section steps
variable {P : Program} {ops os : List Oper} {K : Ko} {l : Fr} {h : Heap} {d : Nat} {ty : TypeId} {pos : String} {aft : Array Edge}

theorem S_nil (hk : K l h) : S P ops K [] l h := ⟨l, Sub.refl l, hk⟩

theorem S_cut {K' : Ko} (hs : S P ops K' os l h) (hk : ∀ l h, K' l h → K l h) : S P ops K os l h := regL_mono (fun env h ⟨l, h1, h2⟩ => ⟨l, h1, hk l h h2⟩) os _ _ hs

theorem S_q {op : Op} {v : Value} (hc : cls P op = 0 ∨ cls P op = 1) (hq : qV P (E l) h op = some v) (hk : S P ops K os ((d, v) :: l) h) : S P ops K (⟨some d, op, ty, pos, aft, none⟩ :: os) l h := by
  refine .inl ⟨rfl, ?_⟩
  rw [opW_quiet hc]
  exact ⟨v, hq, hk⟩

theorem S_mv {x : Operand} {v : Value} (hx : ev (E l) x = some v) (hk : S P ops K os ((d, v) :: l) h) : S P ops K (⟨some d, .move x, ty, pos, aft, none⟩ :: os) l h := S_q (.inl rfl) hx hk
theorem S_as {x : Operand} {v : Value} (hx : ev (E l) x = some v) (hk : S P ops K os ((d, v) :: l) h) : S P ops K (⟨some d, .assign x, ty, pos, aft, none⟩ :: os) l h := S_q (.inl rfl) hx hk
theorem S_ex {x : Operand} {i : Nat} {vs : Array Value} {v : Value} (hx : ev (E l) x = some (.tuple vs)) (hi : vs[i]? = some v) (hk : S P ops K os ((d, v) :: l) h) : S P ops K (⟨some d, .extract x i, ty, pos, aft, none⟩ :: os) l h :=
  S_q (.inl rfl) (by simp only [qV, hx]; exact hi) hk
theorem S_nc {x : Operand} {a : Addr} (hx : ev (E l) x = some (.pointer (some a))) (hk : S P ops K os ((d, .pointer (some a)) :: l) h) : S P ops K (⟨some d, .nilCheck x, ty, pos, aft, none⟩ :: os) l h :=
  S_q (.inl rfl) (by simp only [qV, hx]) hk
theorem add_mk (b o n : Nat) : (⟨b, o, none⟩ : Addr).add n = ⟨b, o + n, none⟩ := by
  unfold Addr.add
  split
  · rename_i e; subst e; rfl
  · rfl
theorem S_fa {s : TypeId} {x : Operand} {f b o k : Nat} (hf : fOff P s f = some k) (hx : ev (E l) x = some (.pointer (some ⟨b, o, none⟩))) (hk : S P ops K os ((d, .pointer (some ⟨b, o + k, none⟩)) :: l) h) : S P ops K (⟨some d, .fieldAddr s x f, ty, pos, aft, none⟩ :: os) l h :=
  S_q (.inl rfl) (by simp only [qV, hx, hf, add_mk]) hk
/-- a field at the head of its block's struct -/
theorem S_fa0 {s : TypeId} {x : Operand} {f b k : Nat} (hf : fOff P s f = some k) (hx : ev (E l) x = some (.pointer (some ⟨b, 0, none⟩))) (hk : S P ops K os ((d, .pointer (some ⟨b, k, none⟩)) :: l) h) : S P ops K (⟨some d, .fieldAddr s x f, ty, pos, aft, none⟩ :: os) l h :=
  S_fa hf hx (by rw [Nat.zero_add]; exact hk)
theorem S_ld {t : TypeId} {x : Operand} {b o : Nat} {v : Value} (ht : agS P t = some none) (hx : ev (E l) x = some (.pointer (some ⟨b, o, none⟩))) (hv : cellH h ⟨b, o, none⟩ = some v) (hk : S P ops K os ((d, v) :: l) h) : S P ops K (⟨some d, .load t x, ty, pos, aft, none⟩ :: os) l h :=
  S_q (.inr rfl) (by simp only [qV, hx, loadV, ht]; exact hv) hk
theorem S_ldn {t : TypeId} {x : Operand} {b o n : Nat} {vs : List Value} (ht : agS P t = some (some n)) (hx : ev (E l) x = some (.pointer (some ⟨b, o, none⟩))) (hv : cellsH h ⟨b, o, none⟩ 0 n = some vs) (hk : S P ops K os ((d, .agg vs.toArray) :: l) h) : S P ops K (⟨some d, .load t x, ty, pos, aft, none⟩ :: os) l h :=
  S_q (.inr rfl) (by simp only [qV, hx, loadV, ht, hv, Option.map_some]) hk
theorem S_ix {t : TypeId} {x i : Operand} {b o len cap size : Nat} {k : IntKind} {n : Int} (ht : elS P t = some size) (hx : ev (E l) x = some (.slice (some ⟨b, o, none⟩) len cap)) (hi : ev (E l) i = some (.int k n)) (h0 : 0 ≤ n) (h1 : n < len)
    (hk : S P ops K os ((d, .pointer (some ⟨b, o + n.toNat * size, none⟩)) :: l) h) : S P ops K (⟨some d, .indexAddr t x i, ty, pos, aft, none⟩ :: os) l h :=
  S_q (.inl rfl) (by simp only [qV, hx, hi, ht, h0, h1, and_self, if_true, add_mk]) hk
/-- an index that is a natural number, at a slice from its block's head, one cell an element -/
theorem S_ixn {t : TypeId} {x i : Operand} {b len cap : Nat} {k : IntKind} {n : Nat} (ht : elS P t = some 1) (hx : ev (E l) x = some (.slice (some ⟨b, 0, none⟩) len cap)) (hi : ev (E l) i = some (.int k n)) (h1 : n < len)
    (hk : S P ops K os ((d, .pointer (some ⟨b, n, none⟩)) :: l) h) : S P ops K (⟨some d, .indexAddr t x i, ty, pos, aft, none⟩ :: os) l h :=
  S_ix ht hx hi (by omega) (by omega) (by simpa using hk)
theorem S_ixa {t : TypeId} {x i : Operand} {b o len size : Nat} {k : IntKind} {n : Int} (ht : arS P t = some (len, size)) (hx : ev (E l) x = some (.pointer (some ⟨b, o, none⟩))) (hi : ev (E l) i = some (.int k n)) (h0 : 0 ≤ n) (h1 : n < len)
    (hk : S P ops K os ((d, .pointer (some ⟨b, o + n.toNat * size, none⟩)) :: l) h) : S P ops K (⟨some d, .indexAddr t x i, ty, pos, aft, none⟩ :: os) l h :=
  S_q (.inl rfl) (by simp only [qV, hx, hi, ht, h0, h1, and_self, if_true, add_mk]) hk
theorem S_si {t : TypeId} {x i : Operand} {s : ByteArray} {k : IntKind} {n : Int} (ht : kd P t = 0) (hx : ev (E l) x = some (.string s)) (hi : ev (E l) i = some (.int k n)) (h0 : 0 ≤ n) (h1 : n < s.size)
    (hk : S P ops K os ((d, .int .u8 (bAt s n.toNat)) :: l) h) : S P ops K (⟨some d, .index t x i, ty, pos, aft, none⟩ :: os) l h :=
  S_q (.inl rfl) (by simp only [qV, hx, hi, ht, h0, h1, and_self, if_true]) hk
theorem S_bin {op : BinOp} {t t' : TypeId} {x y : Operand} {a b v : Value} (hx : ev (E l) x = some a) (hy : ev (E l) y = some b) (hv : binV P op t a b = some v) (hk : S P ops K os ((d, v) :: l) h) : S P ops K (⟨some d, .binOp op t x y t', ty, pos, aft, none⟩ :: os) l h :=
  S_q (.inl rfl) (by simp only [qV, hx, hy]; exact hv) hk
theorem S_add {t t' : TypeId} {x y : Operand} {a b : Int} (hx : ev (E l) x = some (.int .i64 a)) (hy : ev (E l) y = some (.int .i64 b)) (h0 : -9223372036854775808 ≤ a + b) (h1 : a + b < 9223372036854775808) (hk : S P ops K os ((d, .int .i64 (a + b)) :: l) h) : S P ops K (⟨some d, .binOp .add t x y t', ty, pos, aft, none⟩ :: os) l h :=
  S_bin hx hy (by simp only [binV, intV, if_true, wrap_i64 h0 h1]) hk
theorem S_sub {t t' : TypeId} {x y : Operand} {a b : Int} (hx : ev (E l) x = some (.int .i64 a)) (hy : ev (E l) y = some (.int .i64 b)) (h0 : -9223372036854775808 ≤ a - b) (h1 : a - b < 9223372036854775808) (hk : S P ops K os ((d, .int .i64 (a - b)) :: l) h) : S P ops K (⟨some d, .binOp .sub t x y t', ty, pos, aft, none⟩ :: os) l h :=
  S_bin hx hy (by simp only [binV, intV, if_true, wrap_i64 h0 h1]) hk
theorem S_mul {t t' : TypeId} {x y : Operand} {a b : Int} (hx : ev (E l) x = some (.int .i64 a)) (hy : ev (E l) y = some (.int .i64 b)) (h0 : -9223372036854775808 ≤ a * b) (h1 : a * b < 9223372036854775808) (hk : S P ops K os ((d, .int .i64 (a * b)) :: l) h) : S P ops K (⟨some d, .binOp .mul t x y t', ty, pos, aft, none⟩ :: os) l h :=
  S_bin hx hy (by simp only [binV, intV, if_true, wrap_i64 h0 h1]) hk
theorem S_quo {t t' : TypeId} {x y : Operand} {a b : Int} (hx : ev (E l) x = some (.int .i64 a)) (hy : ev (E l) y = some (.int .i64 b)) (h0 : 0 ≤ a) (h1 : a < 9223372036854775808) (hb : 1 ≤ b) (hk : S P ops K os ((d, .int .i64 (a / b)) :: l) h) : S P ops K (⟨some d, .binOp .quo t x y t', ty, pos, aft, none⟩ :: os) l h := by
  refine S_bin hx hy ?_ hk
  have hb' : b ≠ 0 := by omega
  have hd : a.tdiv b = a / b := Int.tdiv_eq_ediv_of_nonneg h0
  have h2 : 0 ≤ a / b := Int.ediv_nonneg h0 (by omega)
  have h3 : a / b ≤ a := Int.ediv_le_self b h0
  simp only [binV, intV, hb', ne_eq, not_false_eq_true, and_self, if_true, hd]
  rw [wrap_i64 (by omega) (by omega)]
theorem S_rem {t t' : TypeId} {x y : Operand} {k : IntKind} {a b : Int} (hx : ev (E l) x = some (.int k a)) (hy : ev (E l) y = some (.int k b)) (h0 : 0 ≤ a) (hb : b ≠ 0) (hk : S P ops K os ((d, .int k (a % b)) :: l) h) : S P ops K (⟨some d, .binOp .rem t x y t', ty, pos, aft, none⟩ :: os) l h := by
  refine S_bin hx hy ?_ hk
  simp only [binV, intV, hb, ne_eq, not_false_eq_true, and_self, if_true, Int.tmod_eq_emod_of_nonneg h0]
theorem S_not {t : TypeId} {x : Operand} {p : Prop} [Decidable p] (hx : ev (E l) x = some (.bool (decide p))) (hk : S P ops K os ((d, .bool (decide (¬ p))) :: l) h) : S P ops K (⟨some d, .unOp .not t x, ty, pos, aft, none⟩ :: os) l h :=
  S_q (.inl rfl) (by simp only [qV, hx, unV, decide_not]) hk
theorem S_notb {t : TypeId} {x : Operand} {b : Bool} (hx : ev (E l) x = some (.bool b)) (hk : S P ops K os ((d, .bool (!b)) :: l) h) : S P ops K (⟨some d, .unOp .not t x, ty, pos, aft, none⟩ :: os) l h :=
  S_q (.inl rfl) (by simp only [qV, hx, unV]) hk
theorem S_un {op : UnOp} {t : TypeId} {x : Operand} {a v : Value} (hx : ev (E l) x = some a) (hv : unV op a = some v) (hk : S P ops K os ((d, v) :: l) h) : S P ops K (⟨some d, .unOp op t x, ty, pos, aft, none⟩ :: os) l h :=
  S_q (.inl rfl) (by simp only [qV, hx]; exact hv) hk
theorem S_cv {s t : TypeId} {x : Operand} {k k' : IntKind} {n : Int} (hs : (P.underlying s).isSome = true) (ht : inK P t = some k) (hx : ev (E l) x = some (.int k' n)) (hk : S P ops K os ((d, .int k (k.wrap n)) :: l) h) : S P ops K (⟨some d, .convert s t x, ty, pos, aft, none⟩ :: os) l h :=
  S_q (.inl (by simp only [cls, ht])) (by simp only [qV, hx, convV, ht, hs, if_true]) hk
/-- to int64, what fits -/
theorem S_cvi {s t : TypeId} {x : Operand} {k' : IntKind} {n : Int} (hs : (P.underlying s).isSome = true) (ht : inK P t = some .i64) (hx : ev (E l) x = some (.int k' n)) (h0 : -9223372036854775808 ≤ n) (h1 : n < 9223372036854775808) (hk : S P ops K os ((d, .int .i64 n) :: l) h) : S P ops K (⟨some d, .convert s t x, ty, pos, aft, none⟩ :: os) l h :=
  S_cv hs ht hx (by rw [wrap_i64 h0 h1]; exact hk)
theorem wrap_u8 {n : Int} (h0 : 0 ≤ n) (h1 : n < 256) : IntKind.u8.wrap n = n := by
  simp only [IntKind.wrap, IntKind.signed, IntKind.bits]
  simp
  omega
theorem S_cvb {s t : TypeId} {x : Operand} {k' : IntKind} {n : Int} (hs : (P.underlying s).isSome = true) (ht : inK P t = some .u8) (hx : ev (E l) x = some (.int k' n)) (h0 : 0 ≤ n) (h1 : n < 256) (hk : S P ops K os ((d, .int .u8 n) :: l) h) : S P ops K (⟨some d, .convert s t x, ty, pos, aft, none⟩ :: os) l h :=
  S_cv hs ht hx (by rw [wrap_u8 h0 h1]; exact hk)
theorem S_lens {t : TypeId} {x : Operand} {s : ByteArray} (ht : kd P t = 0) (hx : ev (E l) x = some (.string s)) (hk : S P ops K os ((d, .int .i64 s.size) :: l) h) : S P ops K (⟨some d, .call ⟨.builtin .len, #[x], #[t]⟩, ty, pos, aft, none⟩ :: os) l h :=
  S_q (.inl rfl) (by simp only [qV, hx, ht, if_true]) hk
theorem S_lenl {t : TypeId} {x : Operand} {a : Option Addr} {n c : Nat} {z : Nat} (ht : elS P t = some z) (hx : ev (E l) x = some (.slice a n c)) (hk : S P ops K os ((d, .int .i64 n) :: l) h) : S P ops K (⟨some d, .call ⟨.builtin .len, #[x], #[t]⟩, ty, pos, aft, none⟩ :: os) l h :=
  S_q (.inl rfl) (by simp only [qV, hx, ht, Option.isSome_some, if_true]) hk
theorem S_capl {t : TypeId} {x : Operand} {a : Option Addr} {n c : Nat} {z : Nat} (ht : elS P t = some z) (hx : ev (E l) x = some (.slice a n c)) (hk : S P ops K os ((d, .int .i64 c) :: l) h) : S P ops K (⟨some d, .call ⟨.builtin .cap, #[x], #[t]⟩, ty, pos, aft, none⟩ :: os) l h :=
  S_q (.inl rfl) (by simp only [qV, hx, ht, Option.isSome_some, if_true]) hk
theorem S_pt {c x y : Operand} {v : Value} (hc : ev (E l) c = some (.bool true)) (hx : ev (E l) x = some v) (hk : S P ops K os ((d, v) :: l) h) : S P ops K (⟨some d, .pick c x y, ty, pos, aft, none⟩ :: os) l h :=
  S_q (.inl rfl) (by simp only [qV, hc]; exact hx) hk
theorem S_pf {c x y : Operand} {v : Value} (hc : ev (E l) c = some (.bool false)) (hy : ev (E l) y = some v) (hk : S P ops K os ((d, v) :: l) h) : S P ops K (⟨some d, .pick c x y, ty, pos, aft, none⟩ :: os) l h :=
  S_q (.inl rfl) (by simp only [qV, hc]; exact hy) hk
theorem S_sl {t : TypeId} {x : Operand} {lo hi : Option Operand} {a v : Value} {p q : Option Value} (hx : ev (E l) x = some a) (hp : evo (E l) lo = some p) (hq : evo (E l) hi = some q) (hv : sliceV P t a p q = some v) (hk : S P ops K os ((d, v) :: l) h) : S P ops K (⟨some d, .slice t x lo hi none, ty, pos, aft, none⟩ :: os) l h :=
  S_q (.inl rfl) (by simp only [qV, hx, hp, hq]; exact hv) hk
theorem S_bld {t : TypeId} {parts : Array (Nat × Operand)} {ps : List (Nat × Value)} {v : Value} (hp : evps (E l) parts.toList = some ps) (hv : buildV P t ps = some v) (hk : S P ops K os ((d, v) :: l) h) : S P ops K (⟨some d, .build t parts, ty, pos, aft, none⟩ :: os) l h :=
  S_q (.inl rfl) (by simp only [qV, hp]; exact hv) hk
/-- decide a Bool that has just been laid -/
theorem S_dec {p : Prop} [Decidable p] (h1 : p → S P ops K os ((d, .bool true) :: l) h) (h2 : ¬ p → S P ops K os ((d, .bool false) :: l) h) : S P ops K os ((d, .bool (decide p)) :: l) h := by
  by_cases hp : p
  · rw [decide_eq_true hp]; exact h1 hp
  · rw [decide_eq_false hp]; exact h2 hp
theorem S_decb {b : Bool} (h1 : b = true → S P ops K os ((d, .bool true) :: l) h) (h2 : b = false → S P ops K os ((d, .bool false) :: l) h) : S P ops K os ((d, .bool b) :: l) h := by
  cases b
  · exact h2 rfl
  · exact h1 rfl
/-- guards -/
theorem S_gt {dst : Option Tmp} {op : Op} {g : Nat × Bool} (hg : wantE ops.toArray (E l) ⟨dst, op, ty, pos, aft, some g⟩ = some true) (hk : S P ops K (⟨dst, op, ty, pos, aft, none⟩ :: os) l h) : S P ops K (⟨dst, op, ty, pos, aft, some g⟩ :: os) l h := by
  rcases hk with ⟨_, hk⟩ | ⟨hk, _⟩
  · exact .inl ⟨hg, hk⟩
  · simp [wantE] at hk
theorem S_gf {op : Op} {g : Nat × Bool} (hg : wantE ops.toArray (E l) ⟨some d, op, ty, pos, aft, some g⟩ = some false) (hk : S P ops K os ((d, undef) :: l) h) : S P ops K (⟨some d, op, ty, pos, aft, some g⟩ :: os) l h := .inr ⟨hg, hk⟩

/-! memory -/
theorem S_al {op : Op} {v : Value} {cs : Array Value} {t : TypeId} (hc : cls P op = 2) (hq : aV P (E l) h.size op = some (v, cs, t)) (hk : S P ops K os ((d, v) :: l) (h.push (.cells cs t))) : S P ops K (⟨some d, op, ty, pos, aft, none⟩ :: os) l h := by
  refine .inl ⟨rfl, ?_⟩
  unfold opW
  simp only [hc]
  exact ⟨v, cs, t, hq, hk⟩
theorem S_alloc {t : TypeId} {z : Value} (hz : zV P t = some z) (hk : S P ops K os ((d, .pointer (some ⟨h.size, 0, none⟩)) :: l) (h.push (.cells z.cells t))) : S P ops K (⟨some d, .alloc t, ty, pos, aft, none⟩ :: os) l h :=
  S_al rfl (by simp only [aV, hz]) hk
theorem S_box {t : TypeId} {x : Operand} {v : Value} (hx : ev (E l) x = some v) (hk : S P ops K os ((d, .pointer (some ⟨h.size, 0, none⟩)) :: l) (h.push (.cells v.cells t))) : S P ops K (⟨some d, .box t x, ty, pos, aft, none⟩ :: os) l h :=
  S_al rfl (by simp only [aV, hx]) hk
theorem S_allocA {t : TypeId} {cs : Array Value} (hz : zV P t = some (.agg cs)) (hk : S P ops K os ((d, .pointer (some ⟨h.size, 0, none⟩)) :: l) (h.push (.cells cs t))) : S P ops K (⟨some d, .alloc t, ty, pos, aft, none⟩ :: os) l h := S_alloc hz hk
theorem S_boxA {t : TypeId} {x : Operand} {cs : Array Value} (hx : ev (E l) x = some (.agg cs)) (hk : S P ops K os ((d, .pointer (some ⟨h.size, 0, none⟩)) :: l) (h.push (.cells cs t))) : S P ops K (⟨some d, .box t x, ty, pos, aft, none⟩ :: os) l h := S_box hx hk
theorem S_mk {t e : TypeId} {x y : Operand} {size bytes : Nat} {z : Array Value} {k k' : IntKind} {n c : Int} (ht : elI P t = some (e, size, bytes, z)) (hx : ev (E l) x = some (.int k n)) (hy : ev (E l) y = some (.int k' c)) (h0 : 0 ≤ n) (h1 : n ≤ c) (h2 : c < 9223372036854775808) (h3 : bytes * c ≤ 281474976710656)
    (hk : S P ops K os ((d, .slice (some ⟨h.size, 0, none⟩) n.toNat c.toNat) :: l) (h.push (.cells (mkZ z (c.toNat * size)) e))) : S P ops K (⟨some d, .makeSlice t x y, ty, pos, aft, none⟩ :: os) l h :=
  S_al rfl (by simp only [aV, ht, hx, hy, h0, h1, h2, h3, and_self, if_true]) hk
theorem S_bs {t e : TypeId} {len : Nat} {parts : Array (Nat × Operand)} {ps : List (Nat × Value)} {size bytes : Nat} {z cs : Array Value} (ht : elI P t = some (e, size, bytes, z)) (hp : evps (E l) parts.toList = some ps) (h1 : len * size ≤ 16777216) (h0 : 0 < len * size) (hf : Instr.fill (fun i => some (i * size, size)) (mkZ z (len * size)) ps = some cs)
    (hk : S P ops K os ((d, .slice (some ⟨h.size, 0, none⟩) len len) :: l) (h.push (.cells cs e))) : S P ops K (⟨some d, .buildSlice t len parts, ty, pos, aft, none⟩ :: os) l h :=
  S_al rfl (by simp only [aV, ht, hp, h0, h1, and_self, if_true, hf]) hk

theorem opW_loud {env : Env} {K : Value → Heap → Prop} {op : Op} (hc : cls P op = 3) : opW P env h K op = lW P env h K op := by
  unfold opW
  simp only [hc]

theorem S_st {t : TypeId} {x y : Operand} {b o : Nat} {v : Value} (hz : sz P t = some 1) (hx : ev (E l) x = some (.pointer (some ⟨b, o, none⟩))) (hy : ev (E l) y = some v) (hv : v.cells = #[v]) (h1 : v.oneCell' = true) (ho : okPut h ⟨b, o, none⟩ = true)
    (hk : S P ops K os l (putH h ⟨b, o, none⟩ v)) : S P ops K (⟨none, .store t x y, ty, pos, aft, none⟩ :: os) l h := by
  refine .inl ⟨rfl, ?_⟩
  rw [opW_loud rfl]
  refine ⟨_, _, _, hx, hy, ?_, hk⟩
  simp only [storeV, hz, hv, List.size_toArray, List.length_cons, List.length_nil, Nat.zero_add, if_true, storeCs, h1, Bool.true_and]
  rw [show (⟨b, o, none⟩ : Addr).add 0 = ⟨b, o, none⟩ by rw [add_mk]; rfl, if_pos ho]
theorem S_stn {t : TypeId} {x y : Operand} {b o : Nat} {cs : Array Value} {h' : Heap} (hz : sz P t = some cs.size) (hx : ev (E l) x = some (.pointer (some ⟨b, o, none⟩))) (hy : ev (E l) y = some (.agg cs)) (ho : storeCs h ⟨b, o, none⟩ 0 cs.toList = some h')
    (hk : S P ops K os l h') : S P ops K (⟨none, .store t x y, ty, pos, aft, none⟩ :: os) l h := by
  refine .inl ⟨rfl, ?_⟩
  rw [opW_loud rfl]
  refine ⟨_, _, _, hx, hy, ?_, hk⟩
  simp only [storeV, Value.cells, hz, if_true, ho]
theorem S_call {f : FuncId} {args : Array Operand} {tys : Array TypeId} {vs : List Value} (hb : hasB P f = true) (ha : evs (E l) args.toList = some vs) (hc : FC P f vs.toArray h fun v h' => S P ops K os ((d, v) :: l) h') : S P ops K (⟨some d, .call ⟨.value (.func f), args, tys⟩, ty, pos, aft, none⟩ :: os) l h := by
  refine .inl ⟨rfl, ?_⟩
  rw [opW_loud rfl]
  exact ⟨vs, ha, hb, hc⟩
theorem S_app {args : Array Operand} {sT xT : TypeId} {s x : Value} (ha : evs (E l) args.toList = some [s, x]) (hc : appW P h (fun v h' => S P ops K os ((d, v) :: l) h') sT xT s x) : S P ops K (⟨some d, .call ⟨.builtin .append, args, #[sT, xT]⟩, ty, pos, aft, none⟩ :: os) l h := by
  refine .inl ⟨rfl, ?_⟩
  rw [opW_loud rfl]
  exact ⟨s, x, ha, hc⟩
theorem S_cp {args : Array Operand} {dT xT : TypeId} {s x : Value} (ha : evs (E l) args.toList = some [s, x]) (hc : copyW P h (fun v h' => S P ops K os ((d, v) :: l) h') dT s x) : S P ops K (⟨some d, .call ⟨.builtin .copy, args, #[dT, xT]⟩, ty, pos, aft, none⟩ :: os) l h := by
  refine .inl ⟨rfl, ?_⟩
  rw [opW_loud rfl]
  exact ⟨s, x, ha, hc⟩
end steps


theorem S_nilk (ks : List Nat) {P : Program} {ops : List Oper} {K : Ko} {l l' : Fr} {h : Heap} (hp : proj ks l = l') (hk : K l' h) : S P ops K [] l h := ⟨l', fun t v e => proj_sub l ks t v (hp ▸ e), hk⟩

/-- a lk into memory, what follows behind a letter -/
def oP {α : Type} (o : Option α) (K : α → Prop) : Prop := ∃ v, o = some v ∧ K v
theorem oP_some {α : Type} (v : α) (K : α → Prop) : oP (some v) K = K v := by
  simp [oP]
/-- cells, one behind the other -/
def oPs (h : Heap) (b : Nat) : Nat → Nat → (List Value → Prop) → Prop
  | _, 0, K => K []
  | o, n + 1, K => oP (cellH h ⟨b, o, none⟩) fun v => oPs h b (o + 1) n fun vs => K (v :: vs)
theorem oPs_nil (h : Heap) (b o : Nat) (K : List Value → Prop) : oPs h b o 0 K = K [] := rfl
theorem oPs_cons (h : Heap) (b o n : Nat) (K : List Value → Prop) : oPs h b o (n + 1) K = oP (cellH h ⟨b, o, none⟩) fun v => oPs h b (o + 1) n fun vs => K (v :: vs) := rfl
theorem oPs_spec {h : Heap} {b o : Nat} : ∀ (n i : Nat) (K : List Value → Prop), oPs h b (o + i) n K → ∃ vs, cellsH h ⟨b, o, none⟩ i n = some vs ∧ K vs
  | 0, i, K, hk => ⟨[], rfl, hk⟩
  | n + 1, i, K, ⟨v, hv, hk⟩ => by
    obtain ⟨vs, h1, h2⟩ := oPs_spec n (i + 1) (fun vs => K (v :: vs)) hk
    refine ⟨v :: vs, ?_, h2⟩
    simp only [cellsH, add_mk, hv, h1, Option.map_some]

section looks
variable {P : Program} {ops os : List Oper} {K : Ko} {l : Fr} {h : Heap} {d : Nat} {ty : TypeId} {pos : String} {aft : Array Edge}
theorem S_ldK {t : TypeId} {x : Operand} {b o : Nat} (ht : agS P t = some none) (hx : ev (E l) x = some (.pointer (some ⟨b, o, none⟩))) (hk : ∀ K' : Value → Prop, (∀ v, S P ops K os ((d, v) :: l) h → K' v) → oP (cellH h ⟨b, o, none⟩) K') : S P ops K (⟨some d, .load t x, ty, pos, aft, none⟩ :: os) l h := by
  obtain ⟨v, hv, hs⟩ := hk _ (fun _ h => h)
  exact S_ld ht hx hv hs
theorem S_ldnK {t : TypeId} {x : Operand} {b o n : Nat} (ht : agS P t = some (some n)) (hx : ev (E l) x = some (.pointer (some ⟨b, o, none⟩))) (hk : ∀ K' : List Value → Prop, (∀ vs, S P ops K os ((d, .agg vs.toArray) :: l) h → K' vs) → oPs h b o n K') : S P ops K (⟨some d, .load t x, ty, pos, aft, none⟩ :: os) l h := by
  obtain ⟨vs, hv, hs⟩ := oPs_spec (o := o) n 0 _ (hk _ (fun _ h => h))
  exact S_ldn ht hx hv hs
end looks
theorem strV_add {P : Program} {t : TypeId} {a b : ByteArray} (h : a.size + b.size ≤ 9223372036854775807) : binV P .add t (.string a) (.string b) = some (.string (a ++ b)) := by
  simp only [binV, strV, h, if_true]

theorem and_mask {a : Int} {m k : Nat} (hm : m + 1 = 2 ^ k) (hk : k < 63) (h0 : 0 ≤ a) (h1 : a < 9223372036854775808) : IntKind.i64.wrap ((BitVec.ofInt IntKind.i64.bits a &&& BitVec.ofInt IntKind.i64.bits (m : Int)).toNat : Nat) = a % ((m : Int) + 1) := by
  obtain ⟨n, rfl⟩ := Int.eq_ofNat_of_zero_le h0
  have hn : n < 2 ^ 64 := by
    have : (2 : Nat) ^ 64 = 18446744073709551616 := by decide
    omega
  have hp : (2 : Nat) ^ k ≤ 2 ^ 62 := Nat.pow_le_pow_right (by decide) (by omega)
  have e62 : (2 : Nat) ^ 62 = 4611686018427387904 := by decide
  have hm2 : m < 2 ^ 64 := by
    have : (2 : Nat) ^ 64 = 18446744073709551616 := by decide
    omega
  have e : (BitVec.ofInt IntKind.i64.bits (n : Int) &&& BitVec.ofInt IntKind.i64.bits (m : Int)).toNat = n % 2 ^ k := by
    rw [BitVec.toNat_and]
    simp only [IntKind.bits, BitVec.ofInt_natCast, BitVec.toNat_ofNat]
    rw [Nat.mod_eq_of_lt hn, Nat.mod_eq_of_lt hm2, show m = 2 ^ k - 1 by omega, Nat.and_two_pow_sub_one_eq_mod]
  rw [e]
  have hlt : n % 2 ^ k < 2 ^ k := Nat.mod_lt _ (Nat.two_pow_pos k)
  rw [wrap_i64 (by omega) (by omega), ← hm]
  simp
section masks
variable {P : Program} {ops os : List Oper} {K : Ko} {l : Fr} {h : Heap} {d : Nat} {ty : TypeId} {pos : String} {aft : Array Edge}
/-- 'x & (2^k - 1)' -/
theorem S_andm {t t' : TypeId} {x y : Operand} {a : Int} (m k : Nat) (m1 : Int) (hm1 : (m : Int) + 1 = m1) (hx : ev (E l) x = some (.int .i64 a)) (hy : ev (E l) y = some (.int .i64 (m : Int))) (hm : m + 1 = 2 ^ k) (hk63 : k < 63) (h0 : 0 ≤ a) (h1 : a < 9223372036854775808) (hk : S P ops K os ((d, .int .i64 (a % m1)) :: l) h) : S P ops K (⟨some d, .binOp .and t x y t', ty, pos, aft, none⟩ :: os) l h :=
  S_bin hx hy (by simp only [binV, intV, if_true, and_mask hm hk63 h0 h1, hm1]) hk
/-- one cell an element, from the block's head -/
theorem S_ix1 {t : TypeId} {x i : Operand} {b len cap : Nat} {k : IntKind} {n : Int} (ht : elS P t = some 1) (hx : ev (E l) x = some (.slice (some ⟨b, 0, none⟩) len cap)) (hi : ev (E l) i = some (.int k n)) (h0 : 0 ≤ n) (h1 : n < len)
    (hk : S P ops K os ((d, .pointer (some ⟨b, n.toNat, none⟩)) :: l) h) : S P ops K (⟨some d, .indexAddr t x i, ty, pos, aft, none⟩ :: os) l h :=
  S_ix ht hx hi h0 h1 (by simpa using hk)
/-- an array's element, one cell each -/
theorem S_ixa1 {t : TypeId} {x i : Operand} {b o len : Nat} {k : IntKind} {n : Int} (ht : arS P t = some (len, 1)) (hx : ev (E l) x = some (.pointer (some ⟨b, o, none⟩))) (hi : ev (E l) i = some (.int k n)) (h0 : 0 ≤ n) (h1 : n < len)
    (hk : S P ops K os ((d, .pointer (some ⟨b, o + n.toNat, none⟩)) :: l) h) : S P ops K (⟨some d, .indexAddr t x i, ty, pos, aft, none⟩ :: os) l h :=
  S_ixa ht hx hi h0 h1 (by simpa using hk)
theorem S_ixan {t : TypeId} {x i : Operand} {b o len : Nat} {k : IntKind} {n : Nat} (ht : arS P t = some (len, 1)) (hx : ev (E l) x = some (.pointer (some ⟨b, o, none⟩))) (hi : ev (E l) i = some (.int k n)) (h1 : n < len)
    (hk : S P ops K os ((d, .pointer (some ⟨b, o + n, none⟩)) :: l) h) : S P ops K (⟨some d, .indexAddr t x i, ty, pos, aft, none⟩ :: os) l h :=
  S_ixa ht hx hi (by omega) (by omega) (by simpa using hk)
/-- several cells an element, from the block's head -/
theorem S_ixm {t : TypeId} {x i : Operand} {b len cap size : Nat} {k : IntKind} {n : Int} (ht : elS P t = some size) (hx : ev (E l) x = some (.slice (some ⟨b, 0, none⟩) len cap)) (hi : ev (E l) i = some (.int k n)) (h0 : 0 ≤ n) (h1 : n < len)
    (hk : S P ops K os ((d, .pointer (some ⟨b, n.toNat * size, none⟩)) :: l) h) : S P ops K (⟨some d, .indexAddr t x i, ty, pos, aft, none⟩ :: os) l h :=
  S_ix ht hx hi h0 h1 (by simpa using hk)
/-- .. at a natural number -/
theorem S_ixmn {t : TypeId} {x i : Operand} {b len cap size : Nat} {k : IntKind} {n : Nat} (ht : elS P t = some size) (hx : ev (E l) x = some (.slice (some ⟨b, 0, none⟩) len cap)) (hi : ev (E l) i = some (.int k n)) (h1 : n < len)
    (hk : S P ops K os ((d, .pointer (some ⟨b, n * size, none⟩)) :: l) h) : S P ops K (⟨some d, .indexAddr t x i, ty, pos, aft, none⟩ :: os) l h :=
  S_ix ht hx hi (by omega) (by omega) (by simpa using hk)
end masks

/-! several cells -/
def putsH (h : Heap) (b : Nat) : Nat → List Value → Heap
  | _, [] => h
  | o, v :: r => putsH (putH h ⟨b, o, none⟩ v) b (o + 1) r
theorem okPut_put {h : Heap} {a a' : Addr} {v : Value} (hk : okPut h a' = true) : okPut (putH h a v) a' = true := by
  unfold okPut cellH frozenH putH at *
  rw [Array.getElem?_modify]
  by_cases e : a.block = a'.block
  · rw [if_pos e]
    cases hb : h[a'.block]? with
    | none => rw [hb] at hk; simp at hk
    | some o =>
      cases o <;> rw [hb] at hk <;> simp at hk ⊢
      rename_i c e f
      refine ⟨?_, hk.2⟩
      have h1 := hk.1
      by_cases hs : a'.spot.isSome = true
      · simp [hs] at h1
      · simp only [hs] at h1 ⊢
        by_cases hs2 : a.spot.isSome = true
        · simpa [hs2] using h1
        · simpa [hs2] using h1
  · rw [if_neg e]; exact hk
theorem storeCs_puts {b o : Nat} : ∀ (vs : List Value) (i : Nat) (h : Heap), (∀ j, j < vs.length → okPut h ⟨b, o + i + j, none⟩ = true) → (∀ v ∈ vs, v.oneCell' = true) → storeCs h ⟨b, o, none⟩ i vs = some (putsH h b (o + i) vs)
  | [], i, h, _, _ => rfl
  | v :: vs, i, h, hk, hv => by
    simp only [storeCs, add_mk, hv v (by simp), hk 0 (by simp), Nat.add_zero, Bool.and_self, if_true, putsH]
    have := hk 0 (by simp)
    rw [Nat.add_zero] at this
    rw [this]
    simp only [Bool.and_self, if_true]
    rw [storeCs_puts vs (i + 1) (putH h ⟨b, o + i, none⟩ v) (fun j hj => okPut_put (by have := hk (j + 1) (by simpa using hj); rwa [show o + i + (j + 1) = o + (i + 1) + j by omega] at this)) (fun u hu => hv u (by simp [hu]))]
    rfl
section stl
variable {P : Program} {ops os : List Oper} {K : Ko} {l : Fr} {h : Heap} {d : Nat} {ty : TypeId} {pos : String} {aft : Array Edge}
theorem S_stl {t : TypeId} {x y : Operand} {b o n : Nat} {vs : List Value} (hz : sz P t = some n) (hx : ev (E l) x = some (.pointer (some ⟨b, o, none⟩))) (hy : ev (E l) y = some (.agg vs.toArray)) (hlen : vs.length = n) (hv : vs.all (·.oneCell') = true) (ho : ∀ j, j < n → okPut h ⟨b, o + j, none⟩ = true)
    (hk : S P ops K os l (putsH h b o vs)) : S P ops K (⟨none, .store t x y, ty, pos, aft, none⟩ :: os) l h := by
  subst hlen
  refine S_stn (h' := putsH h b o vs) hz hx hy ?_ hk
  have := storeCs_puts (b := b) (o := o) vs 0 h (by simpa using ho) (by simpa using hv)
  simpa using this
end stl

/-! slices of slices -/
theorem add_zero' (a : Addr) : a.add 0 = a := by unfold Addr.add; simp
theorem sliceV_hi {P : Program} {t : TypeId} {z : Nat} {a : Addr} {len cap : Nat} {k : IntKind} {u : Int} (hz : elS P t = some z) (h0 : 0 ≤ u) (h1 : u ≤ cap) : sliceV P t (.slice (some a) len cap) none (some (.int k u)) = some (.slice (some a) u.toNat cap) := by
  simp only [sliceV, hz, loV]
  rw [if_pos ⟨Int.le_refl 0, h0, h1⟩]
  simp [add_zero']
theorem sliceV_all {P : Program} {t : TypeId} {z : Nat} {a : Addr} {len cap : Nat} (hz : elS P t = some z) (h1 : len ≤ cap) : sliceV P t (.slice (some a) len cap) none none = some (.slice (some a) len cap) := by
  simp only [sliceV, hz, loV]
  rw [if_pos ⟨Int.le_refl 0, by omega, by omega⟩]
  simp [add_zero']
theorem sliceV_str {P : Program} {t : TypeId} {s : ByteArray} {k k' : IntKind} {p u : Int} (hz : kd P t = 0) (h0 : 0 ≤ p) (h1 : p ≤ u) (h2 : u ≤ s.size) : sliceV P t (.string s) (some (.int k p)) (some (.int k' u)) = some (.string (s.extract p.toNat u.toNat)) := by
  simp only [sliceV, hz, loV, if_true]
  rw [if_pos ⟨h0, h1, h2⟩]
theorem sliceV_strhi {P : Program} {t : TypeId} {s : ByteArray} {k' : IntKind} {u : Int} (hz : kd P t = 0) (h1 : 0 ≤ u) (h2 : u ≤ s.size) : sliceV P t (.string s) none (some (.int k' u)) = some (.string (s.extract 0 u.toNat)) := by
  simp only [sliceV, hz, loV, if_true]
  rw [if_pos ⟨Int.le_refl 0, h1, h2⟩]
  rfl
theorem sliceV_strlo {P : Program} {t : TypeId} {s : ByteArray} {k : IntKind} {p : Int} (hz : kd P t = 0) (h0 : 0 ≤ p) (h1 : p ≤ s.size) : sliceV P t (.string s) (some (.int k p)) none = some (.string (s.extract p.toNat s.size)) := by
  simp only [sliceV, hz, loV, if_true]
  rw [if_pos ⟨h0, h1, Int.le_refl _⟩]
  simp

/-! ### code -/
def lookX (i : Nat) : List (Nat × Ko) → Option Ko
  | [] => none
  | (k, K) :: r => if i = k then some K else lookX i r
def upto (K : Ko) : Env → Heap → Prop := fun env h => ∃ l, Sub env l ∧ K l h
def mkQ (N R : Ko) (X : List (Nat × Ko)) : Exit → Env → Heap → Prop
  | .normal => upto N
  | .ret => upto R
  | .exit i => fun env h => ∃ K, lookX i X = some K ∧ upto K env h
  | _ => fun _ _ => False
def V (P : Program) (n : Nat) (c : Code) (N R : Ko) (X : List (Nat × Ko)) (l : Fr) (h : Heap) : Prop := W P n c (mkQ N R X) (E l) h

section codes
variable {P : Program} {n : Nat} {N R : Ko} {X : List (Nat × Ko)} {l : Fr} {h : Heap}

theorem up {K : Ko} (hk : K l h) : upto K (E l) h := ⟨l, Sub.refl l, hk⟩

theorem V_skip (hk : N l h) : V P n .skip N R X l h := W_skip (up hk)
theorem V_ret (hk : R l h) : V P n .ret N R X l h := W_ret (up hk)
theorem V_exit {id : Nat} {K : Ko} (hx : lookX id X = some K) (hk : K l h) : V P n (.exit id) N R X l h := W_exit ⟨K, hx, up hk⟩

theorem upk {K : Ko} (ks : List Nat) {l' : Fr} (hp : proj ks l = l') (hk : K l' h) : upto K (E l) h := ⟨l', fun t v e => proj_sub l ks t v (hp ▸ e), hk⟩
theorem V_skipk (ks : List Nat) {l' : Fr} (hp : proj ks l = l') (hk : N l' h) : V P n .skip N R X l h := W_skip (upk ks hp hk)
theorem V_exitk (ks : List Nat) {l' : Fr} {id : Nat} {K : Ko} (hx : lookX id X = some K) (hp : proj ks l = l') (hk : K l' h) : V P n (.exit id) N R X l h := W_exit ⟨K, hx, upk ks hp hk⟩

theorem V_of_sub {c : Code} {env : Env} {l : Fr} (hs : Sub env l) (hv : V P n c N R X l h) : W P n c (mkQ N R X) env h := W_less (fun t v e => hs t v e) hv

theorem V_keep (ks : List Nat) {c : Code} {l' : Fr} (hp : proj ks l = l') (hv : V P n c N R X l' h) : V P n c N R X l h :=
  V_of_sub (fun t v e => proj_sub l ks t v (hp ▸ e)) hv

theorem V_less {c : Code} {l' : Fr} (hp : ∀ t v, lk t l' = some v → lk t l = some v) (hv : V P n c N R X l' h) : V P n c N R X l h := V_of_sub hp hv

theorem V_seq {x y : Code} (hv : ∀ K : Ko, (∀ l h, V P n y N R X l h → K l h) → V P n x K R X l h) : V P n (.seq x y) N R X l h := by
  have h1 := hv (V P n y N R X) (fun _ _ h => h)
  refine W_seq (W_mono (fun e env h hq => ?_) h1)
  cases e with
  | normal => obtain ⟨l, hs, hv⟩ := hq; exact V_of_sub hs hv
  | _ => exact hq

/-- with a relation in the midst -/
theorem V_seqJ {x y : Code} (J : Ko) (h1 : V P n x J R X l h) (h2 : ∀ l h, J l h → V P n y N R X l h) : V P n (.seq x y) N R X l h :=
  V_seq fun K hK => W_mono (fun e env h hq => by
    cases e with
    | normal => obtain ⟨l, hs, hj⟩ := hq; exact ⟨l, hs, hK _ _ (h2 _ _ hj)⟩
    | _ => exact hq) h1

theorem V_condp {c : Operand} {x y : Code} {p : Prop} [Decidable p] (hc : ev (E l) c = some (.bool (decide p))) (h1 : p → V P n x N R X l h) (h2 : ¬ p → V P n y N R X l h) : V P n (.cond c x y) N R X l h := W_condp hc h1 h2
theorem V_condb {c : Operand} {x y : Code} {b : Bool} (hc : ev (E l) c = some (.bool b)) (h1 : b = true → V P n x N R X l h) (h2 : b = false → V P n y N R X l h) : V P n (.cond c x y) N R X l h := W_cond hc h1 h2
theorem V_condt {c : Operand} {x y : Code} (hc : ev (E l) c = some (.bool true)) (h1 : V P n x N R X l h) : V P n (.cond c x y) N R X l h := W_condt hc h1
theorem V_condf {c : Operand} {x y : Code} (hc : ev (E l) c = some (.bool false)) (h1 : V P n y N R X l h) : V P n (.cond c x y) N R X l h := W_condf hc h1

theorem V_block {id : Nat} {c : Code} (hv : V P n c N R ((id, N) :: X) l h) : V P n (.block id c) N R X l h := by
  refine W_block (W_mono (fun e env h hq => ?_) hv)
  cases e with
  | exit i =>
    obtain ⟨K, hx, hk⟩ := hq
    simp only [lookX] at hx
    simp only [blockQ]
    split
    · rename_i e; rw [if_pos e] at hx; simp only [Option.some.injEq] at hx; subst hx; exact hk
    · rename_i e; rw [if_neg e] at hx; exact ⟨K, hx, hk⟩
  | _ => exact hq

theorem V_loop {c : Code} (I : Nat → Ko) (m : Nat) (h0 : I m l h)
    (round : ∀ m l h, I m l h → ∀ K : Ko, (∀ l' h', (∃ m', m' < m ∧ I m' l' h') → K l' h') → V P n c K R X l h) : V P n (.loop c) N R X l h := by
  refine W_loop (fun m env h => ∃ l, Sub env l ∧ I m l h) m ⟨l, Sub.refl l, h0⟩ ?_
  rintro m env h ⟨l, hs, hI⟩
  have h1 := round m l h hI (fun l' h' => ∃ m', m' < m ∧ I m' l' h') (fun _ _ h => h)
  refine W_mono (fun e env h hq => ?_) (V_of_sub hs h1)
  cases e with
  | normal => obtain ⟨l, hs, m', hlt, hI⟩ := hq; exact ⟨m', hlt, l, hs, hI⟩
  | _ => exact hq

theorem V_reg {id : Nat} {ops : List Oper} {draw : Bool} (hm : P.follows .mixedOrders = true) (ok : okReg P n ops.toArray draw = true) (hr : S P ops N ops l h) : V P n (.region id ops.toArray draw) N R X l h := by
  refine W_region hm ok ?_
  have : ops.toArray.toList = ops := rfl
  rw [this]
  exact hr

theorem V_sr {id : Nat} {ops : List Oper} {draw : Bool} {y : Code} (hm : P.follows .mixedOrders = true) (ok : okReg P n ops.toArray draw = true) (hr : ∀ K : Ko, (∀ l h, V P n y N R X l h → K l h) → S P ops K ops l h) : V P n (.seq (.region id ops.toArray draw) y) N R X l h :=
  V_seq fun K hK => V_reg hm ok (hr K hK)
end codes

/-- the result in slots -/
def retK (P : Program) (fn : Func) (R : Value → Heap → Prop) : Ko := fun l h => ∃ vs, resV P h (E l) fn.results.toList = some vs ∧ R (tupV vs) h

def num : Nat → List Value → Fr
  | _, [] => []
  | k, v :: r => (k, v) :: num (k + 1) r

theorem lk_num : ∀ (args : List Value) (k t : Nat) (v : Value), lk t (num k args) = some v → k ≤ t ∧ args[t - k]? = some v
  | [], k, t, v, h => by simp [num, lk] at h
  | a :: r, k, t, v, h => by
    simp only [num, lk] at h
    split at h
    · rename_i e; subst e; simp only [Option.some.injEq] at h; subst h; simp
    · rename_i e
      obtain ⟨h1, h2⟩ := lk_num r (k + 1) t v h
      refine ⟨by omega, ?_⟩
      rw [show t - k = (t - (k + 1)) + 1 by omega, List.getElem?_cons_succ]
      exact h2

theorem FC_of {P : Program} {f : FuncId} {fn : Func} {c : Code} {n : Nat} {args : List Value} {h : Heap} {Rel : Value → Heap → Prop} (l : Fr) (hf : P.funcs[f]? = some fn) (hb : fn.body = some c) (hn : fn.ntmps = n) (hlen : args.length ≤ n) (hl : num 0 args = l)
    (hv : ∀ R : Ko, (∀ l h, retK P fn Rel l h → R l h) → V P n c R R [] l h) : FC P f args.toArray h Rel := by
  subst hn
  refine FC_of_W hf hb hlen ?_
  have h1 := hv (retK P fn Rel) (fun _ _ h => h)
  have hsub : Sub (argE args) l := by
    intro t v e
    subst hl
    have := lk_num args 0 t v e
    simpa [argE] using this.2
  refine W_mono (fun e env h hq => ?_) (V_of_sub hsub h1)
  have fin : ∀ env h, upto (retK P fn Rel) env h → ∃ vs, resV P h env fn.results.toList = some vs ∧ Rel (tupV vs) h := by
    rintro env h ⟨l, hs, vs, h1, h2⟩
    refine ⟨vs, ?_, h2⟩
    have mono : ∀ (rs : List ResultVar) (vs : List Value), resV P h (E l) rs = some vs → resV P h env rs = some vs := by
      intro rs
      induction rs with
      | nil => intro vs h; exact h
      | cons r rs ih =>
        intro vs hv
        cases r with
        | tmp t =>
          simp only [resV] at hv ⊢
          split at hv
          · rename_i v vs' a1 a2
            rw [hs t v a1, ih vs' a2]; exact hv
          · simp at hv
        | cell t ty =>
          simp only [resV] at hv ⊢
          split at hv
          · rename_i ad a1
            rw [hs t _ a1]
            simp only []
            split at hv
            · rename_i v vs' a2 a3
              rw [a2, ih vs' a3]; exact hv
            · simp at hv
          · simp at hv
    exact mono _ _ h1
  cases e with
  | normal => exact fin env h hq
  | ret => exact fin env h hq
  | exit i => obtain ⟨K, hx, _⟩ := hq; simp [lookX] at hx
  | _ => exact hq

theorem ret0 {P : Program} {fn : Func} {Rel : Value → Heap → Prop} {l : Fr} {h : Heap} (hr : fn.results = #[]) (hR : Rel (.tuple #[]) h) : retK P fn Rel l h := ⟨[], by rw [hr]; rfl, hR⟩
theorem ret1 {P : Program} {fn : Func} {Rel : Value → Heap → Prop} {l : Fr} {h : Heap} {t : Nat} {v : Value} (hr : fn.results = #[.tmp t]) (hv : E l t = some v) (hR : Rel v h) : retK P fn Rel l h := ⟨[v], by rw [hr]; simp only [resV, hv], hR⟩
theorem ret2 {P : Program} {fn : Func} {Rel : Value → Heap → Prop} {l : Fr} {h : Heap} {t u : Nat} {v w : Value} (hr : fn.results = #[.tmp t, .tmp u]) (hv : E l t = some v) (hw : E l u = some w) (hR : Rel (.tuple #[v, w]) h) : retK P fn Rel l h :=
  ⟨[v, w], by rw [hr]; simp only [resV, hv, hw], hR⟩
theorem ret3 {P : Program} {fn : Func} {Rel : Value → Heap → Prop} {l : Fr} {h : Heap} {t u s : Nat} {v w x : Value} (hr : fn.results = #[.tmp t, .tmp u, .tmp s]) (hv : E l t = some v) (hw : E l u = some w) (hx : E l s = some x) (hR : Rel (.tuple #[v, w, x]) h) : retK P fn Rel l h :=
  ⟨[v, w, x], by rw [hr]; simp only [resV, hv, hw, hx], hR⟩

end Go.Eng
