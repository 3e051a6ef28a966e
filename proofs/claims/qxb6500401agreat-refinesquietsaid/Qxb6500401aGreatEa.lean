import Derived.Orders
import Derived.Laws.Cells
import Derived.Laws.Entries
import Derived.Laws.Strings
import Derived.Laws.BytesString
namespace Go.Eng

abbrev Env := Nat → Option Value
abbrev Heap := Array Obj
def wd (w0 : World) (h : Heap) (d : Nat) : World := { w0 with heap := h, drawn := d }

/-- A call's contract: it returns v, the heap behind it is h'; of the rest of the world only the count of draws may turn. -/
def FC (P : Program) (f : FuncId) (args : Array Value) (h : Heap) (R : Value → Heap → Prop) : Prop :=
  ∀ (w0 : World) (d : Nat), Calls P f args (wd w0 h d) fun e w' => ∃ v h' d', e = .returned v ∧ w' = wd w0 h' d' ∧ R v h'

theorem FC.mono {P : Program} {f : FuncId} {args : Array Value} {h : Heap} {R R' : Value → Heap → Prop} (hc : FC P f args h R) (hr : ∀ v h', R v h' → R' v h') : FC P f args h R' :=
  fun w0 d => (hc w0 d).mono fun _ _ ⟨v, h', d', e1, e2, r⟩ => ⟨v, h', d', e1, e2, hr _ _ r⟩

theorem FC.some {P : Program} {f : FuncId} {args : Array Value} {h : Heap} {R : Value → Heap → Prop} (hc : FC P f args h R) : ∃ v h', R v h' := by
  obtain ⟨e, w', fr, ⟨v, h', d', _, _, r⟩, _⟩ := hc default 0 []
  exact ⟨v, h', r⟩

/-! ### tables -/
def sz (P : Program) (t : TypeId) : Option Nat := (P.info? t).map (·.size)
def zV (P : Program) (t : TypeId) : Option Value := (P.info? t).bind (·.zero)
def fOff (P : Program) (s : TypeId) (f : Nat) : Option Nat :=
  match P.underlying s with
  | some (.struct fs) => match fs[f]? with
    | some fd => match P.info? fd.type with
      | some i => if i.size = 0 then none else some fd.offset
      | none => none
    | none => none
  | _ => none
def elS (P : Program) (t : TypeId) : Option Nat :=
  match P.underlying t with
  | some (.slice e) => sz P e
  | _ => none
def arS (P : Program) (t : TypeId) : Option (Nat × Nat) :=
  match P.underlying t with
  | some (.array n e) => (sz P e).map fun s => (n, s)
  | _ => none
/-- some none: one cell; some (some n): n cells. -/
def agS (P : Program) (t : TypeId) : Option (Option Nat) :=
  match P.underlying t with
  | some (.struct _) => (sz P t).map some
  | some (.array _ _) => (sz P t).map some
  | some _ => some none
  | none => none
def inK (P : Program) (t : TypeId) : Option IntKind :=
  match P.underlying t with
  | some (.int k) => some k
  | _ => none
/-- 0: string, 1: slice of bytes, 2: bool, 3: pointer to what has cells, 4: another slice -/
def kd (P : Program) (t : TypeId) : Nat :=
  match P.underlying t with
  | some .string => 0
  | some (.slice e) => match P.underlying e with
    | some (.int .u8) => 1
    | _ => 4
  | some .bool => 2
  | some (.pointer e) => match sz P e with
    | some 0 => 9
    | some _ => 3
    | none => 9
  | _ => 9

/-! ### memory -/
def cellH (h : Heap) (a : Addr) : Option Value :=
  match h[a.block]? with
  | some (.cells c _ _) => if a.spot.isSome then none else c[a.off]?
  | _ => none
def frozenH (h : Heap) (a : Addr) : Bool :=
  match h[a.block]? with
  | some (.cells _ _ (lo, hi)) => lo ≤ a.off && a.off < hi
  | _ => false
def putH (h : Heap) (a : Addr) (v : Value) : Heap :=
  h.modify a.block fun
    | .cells c e f => .cells (if a.spot.isSome then c else c.setIfInBounds a.off v) e f
    | o => o
def okPut (h : Heap) (a : Addr) : Bool := (cellH h a).isSome && !frozenH h a
def cellsH (h : Heap) (a : Addr) : Nat → Nat → Option (List Value)
  | _, 0 => some []
  | i, n + 1 => match cellH h (a.add i) with
    | some v => (cellsH h a (i + 1) n).map (v :: ·)
    | none => none
def storeCs (h : Heap) (a : Addr) : Nat → List Value → Option Heap
  | _, [] => some h
  | i, v :: r => if (v.oneCell' && okPut h (a.add i)) = true then storeCs (putH h (a.add i) v) a (i + 1) r else none

theorem cell_wd (w0 : World) (h : Heap) (d : Nat) (a : Addr) : (wd w0 h d).cell? a = cellH h a := rfl
theorem frozen_wd (w0 : World) (h : Heap) (d : Nat) (a : Addr) : (wd w0 h d).frozen? a = frozenH h a := rfl
theorem set_wd (w0 : World) (h : Heap) (d : Nat) (a : Addr) (v : Value) : (wd w0 h d).setCell a v = wd w0 (putH h a v) d := rfl

def loadV (P : Program) (h : Heap) (t : TypeId) (a : Addr) : Option Value :=
  match agS P t with
  | some none => cellH h a
  | some (some n) => (cellsH h a 0 n).map fun l => .agg l.toArray
  | none => none

/-! ### values -/
def bAt (s : ByteArray) (n : Nat) : Nat := (s.data[n]?.getD 0).toNat

def intV (op : BinOp) (k : IntKind) (a : Int) (k' : IntKind) (b : Int) : Option Value :=
  match op with
  | .shl => if 0 ≤ b then some (.int k (k.wrap (a * 2 ^ (min b.toNat k.bits)))) else none
  | .shr => if 0 ≤ b then some (.int k (a.fdiv (2 ^ (min b.toNat k.bits)))) else none
  | .add => if k = k' then some (.int k (k.wrap (a + b))) else none
  | .sub => if k = k' then some (.int k (k.wrap (a - b))) else none
  | .mul => if k = k' then some (.int k (k.wrap (a * b))) else none
  | .quo => if k = k' ∧ b ≠ 0 then some (.int k (k.wrap (a.tdiv b))) else none
  | .rem => if k = k' ∧ b ≠ 0 then some (.int k (a.tmod b)) else none
  | .and => if k = k' then some (.int k (k.wrap (BitVec.ofInt k.bits a &&& BitVec.ofInt k.bits b).toNat)) else none
  | .or => if k = k' then some (.int k (k.wrap (BitVec.ofInt k.bits a ||| BitVec.ofInt k.bits b).toNat)) else none
  | .xor => if k = k' then some (.int k (k.wrap (BitVec.ofInt k.bits a ^^^ BitVec.ofInt k.bits b).toNat)) else none
  | .andNot => if k = k' then some (.int k (k.wrap (BitVec.ofInt k.bits a &&& ~~~(BitVec.ofInt k.bits b)).toNat)) else none
  | .eql => if k = k' then some (.bool (decide (a = b))) else none
  | .neq => if k = k' then some (.bool (decide (a ≠ b))) else none
  | .lss => if k = k' then some (.bool (decide (a < b))) else none
  | .leq => if k = k' then some (.bool (decide (a ≤ b))) else none
  | .gtr => if k = k' then some (.bool (decide (b < a))) else none
  | .geq => if k = k' then some (.bool (decide (b ≤ a))) else none

def strV (op : BinOp) (a b : ByteArray) : Option Value :=
  match op with
  | .add => if a.size + b.size ≤ 9223372036854775807 then some (.string (a ++ b)) else none
  | .eql => some (.bool (decide (a = b)))
  | .neq => some (.bool (decide (a ≠ b)))
  | _ => none

def binV (P : Program) (op : BinOp) (t : TypeId) (x y : Value) : Option Value :=
  match x, y with
  | .int k a, .int k' b => intV op k a k' b
  | .string a, .string b => strV op a b
  | .bool a, .bool b => if kd P t = 2 then (match op with
    | .eql => some (.bool (decide (a = b)))
    | .neq => some (.bool (decide (a ≠ b)))
    | _ => none) else none
  | .slice a _ _, .slice none _ _ => if kd P t = 1 ∨ kd P t = 4 then (match op with
    | .eql => some (.bool a.isNone)
    | .neq => some (.bool (!a.isNone))
    | _ => none) else none
  | .pointer a, .pointer none => if kd P t = 3 then (match op with
    | .eql => some (.bool a.isNone)
    | .neq => some (.bool (!a.isNone))
    | _ => none) else none
  | _, _ => none

def unV (op : UnOp) (x : Value) : Option Value :=
  match op, x with
  | .not, .bool b => some (.bool (!b))
  | .neg, .int k n => some (.int k (k.wrap (0 - n)))
  | .xor, .int k n => some (.int k (k.wrap (BitVec.ofInt k.bits (if k.signed then -1 else k.max) ^^^ BitVec.ofInt k.bits n).toNat))
  | _, _ => none

def bytesV : List Value → Option (List Int)
  | [] => some []
  | .int .u8 n :: r => (bytesV r).map (n :: ·)
  | _ :: _ => none
def mkS (l : List Int) : ByteArray := ⟨(l.map fun n => UInt8.ofNat n.toNat).toArray⟩

def convV (P : Program) (h : Heap) (s d : TypeId) (x : Value) : Option Value :=
  match inK P d with
  | some k => match x with
    | .int _ n => if (P.underlying s).isSome then some (.int k (k.wrap n)) else none
    | _ => none
  | none => if kd P d = 0 ∧ kd P s = 1 then match x with
    | .slice none _ _ => some (.string .empty)
    | .slice (some a) n _ => ((cellsH h a 0 n).bind bytesV).map fun l => .string (mkS l)
    | _ => none
    else none

def loV (x : Option Value) : Option Int :=
  match x with
  | none => some 0
  | some (.int _ n) => some n
  | _ => none

def sliceV (P : Program) (t : TypeId) (x : Value) (lo hi : Option Value) : Option Value :=
  match x with
  | .string s => if kd P t = 0 then
      match loV lo, (match hi with | none => some (s.size : Int) | some v => loV (some v)) with
      | some l, some u => if 0 ≤ l ∧ l ≤ u ∧ u ≤ s.size then some (.string (s.extract l.toNat u.toNat)) else none
      | _, _ => none
    else none
  | .slice a len cap => match elS P t with
    | some size => match loV lo, (match hi with | none => some (len : Int) | some v => loV (some v)) with
      | some l, some u => if 0 ≤ l ∧ l ≤ u ∧ u ≤ cap then
          some (.slice (if cap = l.toNat then a else a.map (·.add (l.toNat * size))) (u.toNat - l.toNat) (cap - l.toNat)) else none
      | _, _ => none
    | none => none
  | .pointer (some a) => match arS P t with
    | some (n, size) => match loV lo, (match hi with | none => some (n : Int) | some v => loV (some v)) with
      | some l, some u => if 0 ≤ l ∧ l ≤ u ∧ u ≤ n then
          some (.slice (some (if n = l.toNat then a else a.add (l.toNat * size))) (u.toNat - l.toNat) (n - l.toNat)) else none
      | _, _ => none
    | none => none
  | _ => none

def ev (env : Env) : Operand → Option Value
  | .tmp t => env t
  | .const v => some v
  | .global _ => none
  | .func f => some (.func (.func f) #[] #[])

def evs (env : Env) : List Operand → Option (List Value)
  | [] => some []
  | x :: r => match ev env x, evs env r with
    | some v, some vs => some (v :: vs)
    | _, _ => none

def evps (env : Env) : List (Nat × Operand) → Option (List (Nat × Value))
  | [] => some []
  | x :: r => match ev env x.2, evps env r with
    | some v, some vs => some ((x.1, v) :: vs)
    | _, _ => none

/-- the operand, where there is one -/
def evo (env : Env) : Option Operand → Option (Option Value)
  | none => some none
  | some x => (ev env x).map some

def placesV (P : Program) : List Field → Option (List (Nat × Nat))
  | [] => some []
  | f :: r => match sz P f.type, placesV P r with
    | some s, some l => some ((f.offset, s) :: l)
    | _, _ => none

def buildV (P : Program) (t : TypeId) (parts : List (Nat × Value)) : Option Value :=
  match zV P t with
  | some z => match P.underlying t with
    | some (.struct fs) => match placesV P fs.toList with
      | some pl => (Instr.fill (pl.toArray[·]?) z.cells parts).map .agg
      | none => none
    | some (.array _ e) => match sz P e with
      | some size => (Instr.fill (fun i => some (i * size, size)) z.cells parts).map .agg
      | none => none
    | _ => none
  | none => none

/-- What an operation that changes nothing yields. -/
def qV (P : Program) (env : Env) (h : Heap) : Op → Option Value
  | .move x => ev env x
  | .assign x => ev env x
  | .pick c a b => match ev env c with
    | some (.bool true) => ev env a
    | some (.bool false) => ev env b
    | _ => none
  | .nilCheck x => match ev env x with
    | some (.pointer (some a)) => some (.pointer (some a))
    | _ => none
  | .binOp op t x y _ => match ev env x, ev env y with
    | some a, some b => binV P op t a b
    | _, _ => none
  | .unOp op _ x => match ev env x with
    | some a => unV op a
    | none => none
  | .convert s d x => match ev env x with
    | some a => convV P h s d a
    | none => none
  | .fieldAddr s x f => match ev env x, fOff P s f with
    | some (.pointer (some a)), some o => some (.pointer (some (a.add o)))
    | _, _ => none
  | .indexAddr t x i => match ev env x, ev env i with
    | some (.slice (some a) len _), some (.int _ i) => match elS P t with
      | some size => if 0 ≤ i ∧ i < len then some (.pointer (some (a.add (i.toNat * size)))) else none
      | none => none
    | some (.pointer (some a)), some (.int _ i) => match arS P t with
      | some (len, size) => if 0 ≤ i ∧ i < len then some (.pointer (some (a.add (i.toNat * size)))) else none
      | none => none
    | _, _ => none
  | .index t x i => match ev env x, ev env i with
    | some (.string s), some (.int _ i) => if kd P t = 0 ∧ 0 ≤ i ∧ i < s.size then some (.int .u8 (bAt s i.toNat)) else none
    | _, _ => none
  | .slice t x lo hi none => match ev env x, evo env lo, evo env hi with
    | some v, some l, some u => sliceV P t v l u
    | _, _, _ => none
  | .extract x i => match ev env x with
    | some (.tuple vs) => vs[i]?
    | _ => none
  | .load t a => match ev env a with
    | some (.pointer (some a)) => loadV P h t a
    | _ => none
  | .build t parts => match evps env parts.toList with
    | some l => buildV P t l
    | none => none
  | .call c => match c.callee, c.args.toList, c.argTypes.toList with
    | .builtin .len, [x], [t] => match ev env x with
      | some (.string s) => if kd P t = 0 then some (.int .i64 s.size) else none
      | some (.slice _ n _) => if (elS P t).isSome then some (.int .i64 n) else none
      | _ => none
    | .builtin .cap, [x], [t] => match ev env x with
      | some (.slice _ _ n) => if (elS P t).isSome then some (.int .i64 n) else none
      | _ => none
    | _, _, _ => none
  | _ => none


/-! ### the frame -/
structure Sees (n : Nat) (env : Env) (a : Act) : Prop where
  size : a.tmps.size = n
  defers : a.defers = []
  slot : ∀ t v, env t = some v → a.tmps[t]? = some v

def bnd (dst : Option Tmp) (v : Value) (env : Env) : Env :=
  match dst with
  | none => env
  | some d => fun t => if t = d then some v else env t

theorem Sees.put {n : Nat} {env : Env} {a : Act} (hs : Sees n env a) (dst : Option Tmp) (v : Value) (hd : ∀ d, dst = some d → d < n) : Sees n (bnd dst v env) (a.put dst v) := by
  cases dst with
  | none => exact hs
  | some d =>
    have hlt := hd d rfl
    refine ⟨by simp [Act.put, hs.size], hs.defers, fun t u hu => ?_⟩
    simp only [bnd] at hu
    simp only [Act.put]
    by_cases e : t = d
    · subst e
      simp at hu
      subst hu
      rw [Array.getElem?_setIfInBounds_self_of_lt (by rw [hs.size]; exact hlt)]
    · rw [if_neg e] at hu
      rw [Array.getElem?_setIfInBounds_ne (Ne.symm e)]
      exact hs.slot t u hu

theorem Sees.eval {n : Nat} {env : Env} {a : Act} (hs : Sees n env a) {x : Operand} {v : Value} (h : ev env x = some v) : a.eval x = v := by
  cases x with
  | tmp t => simp [Act.eval, hs.slot t v h]
  | const c => simpa [ev, Act.eval] using h
  | global g => simp [ev] at h
  | func f => simpa [ev, Act.eval] using h

theorem Sees.evals {n : Nat} {env : Env} {a : Act} (hs : Sees n env a) : ∀ {xs : List Operand} {vs : List Value}, evs env xs = some vs → xs.map a.eval = vs
  | [], vs, h => by simp [evs] at h; simp [h]
  | x :: r, vs, h => by
    simp only [evs] at h
    split at h
    · rename_i v vs' h1 h2
      simp at h; subst h
      simp [hs.eval h1, hs.evals h2]
    · simp at h

theorem Sees.evalps {n : Nat} {env : Env} {a : Act} (hs : Sees n env a) : ∀ {xs : List (Nat × Operand)} {vs : List (Nat × Value)}, evps env xs = some vs → xs.map (fun x => (x.1, a.eval x.2)) = vs
  | [], vs, h => by simp [evps] at h; simp [h]
  | x :: r, vs, h => by
    simp only [evps] at h
    split at h
    · rename_i v vs' h1 h2
      simp at h; subst h
      simp [hs.eval h1, hs.evalps h2]
    · simp at h

theorem Sees.evalo {n : Nat} {env : Env} {a : Act} (hs : Sees n env a) {x : Option Operand} {v : Option Value} (h : evo env x = some v) : x.map a.eval = v := by
  cases x with
  | none => simpa [evo] using h
  | some x =>
    simp only [evo, Option.map_eq_some_iff] at h
    obtain ⟨u, h1, h2⟩ := h
    subst h2
    simp [hs.eval h1]

section runs
variable {P : Program} {w : World}

theorem run_sz {t : TypeId} {n : Nat} (h : sz P t = some n) : (sizeOf t).run P w = .ok n w := by
  simp only [sz, Option.map_eq_some_iff] at h
  obtain ⟨i, hi, rfl⟩ := h
  simp [sizeOf, typeInfo, hi]
theorem run_zV {t : TypeId} {v : Value} (h : zV P t = some v) : (zeroValue t).run P w = .ok v w := by
  simp only [zV, Option.bind_eq_some_iff] at h
  obtain ⟨i, hi, hz⟩ := h
  simp [zeroValue, typeInfo, hi, hz]
theorem run_und {t : TypeId} {d : TypeDesc} (h : P.underlying t = some d) : (underlying t).run P w = .ok d w := run_underlying h w

theorem run_cellsFrom (w0 : World) (h : Heap) (d : Nat) (a : Addr) : ∀ (n i : Nat) (acc : Array Value) (l : List Value), cellsH h a i n = some l → (loadCellsFrom a i n acc).run P (wd w0 h d) = .ok (acc ++ l.toArray) (wd w0 h d)
  | 0, i, acc, l, hl => by simp [cellsH] at hl; subst hl; simp [loadCellsFrom]
  | n + 1, i, acc, l, hl => by
    simp only [cellsH] at hl
    split at hl
    · rename_i v hv
      simp only [Option.map_eq_some_iff] at hl
      obtain ⟨l', h1, h2⟩ := hl
      subst h2
      have := run_cellsFrom w0 h d a n (i + 1) (acc.push v) l' h1
      simp only [loadCellsFrom, Sem.run_bind, run_load, cell_wd, hv, Result.andThen_ok]
      rw [this]
      simp
    · simp at hl

theorem run_cellsH (w0 : World) (h : Heap) (d : Nat) (a : Addr) (n : Nat) (l : List Value) (hl : cellsH h a 0 n = some l) : (loadCells a n).run P (wd w0 h d) = .ok l.toArray (wd w0 h d) := by
  unfold loadCells
  rw [run_cellsFrom w0 h d a n 0 #[] l hl]
  simp

theorem run_loadV (w0 : World) (h : Heap) (d : Nat) (t : TypeId) (a : Addr) (v : Value) (hv : loadV P h t a = some v) : (loadVar t a).run P (wd w0 h d) = .ok v (wd w0 h d) := by
  unfold loadV agS at hv
  cases hu : P.underlying t with
  | none => simp [hu] at hv
  | some ds =>
    have hr : ∀ w : World, (underlying t).run P w = .ok ds w := fun w => run_und hu
    cases ds <;> simp only [hu] at hv <;>
      first
        | (simp only [loadVar, isAgg, Sem.run_bind, hr, Result.andThen_ok, Sem.run_pure, Sem.run_ite, Bool.false_eq_true, if_false, run_load, cell_wd, hv]; done)
        | (cases hz : sz P t with
           | none => simp [hz] at hv
           | some n =>
             simp only [hz, Option.map_some, Option.map_eq_some_iff] at hv
             obtain ⟨l, h1, h2⟩ := hv
             subst h2
             simp only [loadVar, isAgg, Sem.run_bind, hr, Result.andThen_ok, Sem.run_pure, Sem.run_ite, if_true, run_sz hz, run_cellsH w0 h d a n l h1])
end runs

section quiet
variable {P : Program}

theorem eqGuard_pass (op : BinOp) (t : TypeId) (x y : Operand) (a b : Value) (w : World) (h1 : a ≠ .nilIface) (h2 : ∀ c, a ≠ .agg c) : (eqGuard op t x y a b).run P w = .ok () w := by
  cases op <;> cases a <;> first | exact absurd rfl h1 | exact absurd rfl (h2 _) | (cases b <;> rfl)

theorem bytes_eq (a b : ByteArray) : (a.toList == b.toList) = decide (a = b) := by
  rw [Bool.eq_iff_iff]
  simp only [beq_iff_eq, decide_eq_true_eq]
  constructor
  · intro h
    have h' : a.data.toList = b.data.toList := by
      rw [← ByteArray.toList_eq, ← ByteArray.toList_eq, h]
    cases a; cases b
    simpa using Array.toList_inj.1 h'
  · intro h; rw [h]

theorem run_intV (op : BinOp) (t : TypeId) (k : IntKind) (a : Int) (k' : IntKind) (b : Int) (v : Value) (h : intV op k a k' b = some v) (w : World) : (binOp op t (.int k a) (.int k' b)).run P w = .ok v w := by
  cases op <;> simp only [intV] at h <;> split at h <;> simp only [Option.some.injEq, reduceCtorEq] at h <;> subst h <;> rename_i hc <;>
    simp only [binOp, Op.shift, Op.intArith, Op.intDiv, Op.intBits, Op.intCmp]
  all_goals first
    | (subst hc; simp; done)
    | (obtain ⟨rfl, hb⟩ := hc; simp [hb]; done)
    | (rw [if_neg (by omega)]; simp; done)
    | (subst hc; simp; rfl)

theorem run_strV (op : BinOp) (t : TypeId) (a b : ByteArray) (v : Value) (h : strV op a b = some v) (w : World) : (binOp op t (.string a) (.string b)).run P w = .ok v w := by
  cases op <;> simp only [strV] at h
  case add =>
    split at h
    · rename_i hc
      simp only [Option.some.injEq] at h; subst h
      simp only [binOp, Op.stringOp]
      rw [if_neg]
      · rfl
      · have : (IntKind.i64.max) = 9223372036854775807 := by decide
        rw [this]; omega
    · simp at h
  all_goals first | (simp at h; done) | skip
  case eql => simp only [Option.some.injEq] at h; subst h; simp [binOp, Op.stringOp, bytes_eq]
  case neq => simp only [Option.some.injEq] at h; subst h; simp [binOp, Op.stringOp, bytes_eq]

theorem kd_slice {t : TypeId} (h : kd P t = 1 ∨ kd P t = 4) : ∃ e, P.underlying t = some (.slice e) := by
  unfold kd at h
  split at h
  · simp at h
  · exact ⟨_, by assumption⟩
  · simp at h
  · split at h <;> simp at h
  · simp at h
theorem kd_bytes {t : TypeId} (h : kd P t = 1) : ∃ e, P.underlying t = some (.slice e) ∧ P.underlying e = some (.int .u8) := by
  unfold kd at h
  split at h
  · simp at h
  · split at h
    · exact ⟨_, by assumption, by assumption⟩
    · simp at h
  · simp at h
  · split at h <;> simp at h
  · simp at h
theorem kd_bool {t : TypeId} (h : kd P t = 2) : P.underlying t = some .bool := by
  unfold kd at h
  split at h
  · simp at h
  · split at h <;> simp at h
  · assumption
  · split at h <;> simp at h
  · simp at h
theorem kd_string {t : TypeId} (h : kd P t = 0) : P.underlying t = some .string := by
  unfold kd at h
  split at h
  · assumption
  · split at h <;> simp at h
  · simp at h
  · split at h <;> simp at h
  · simp at h
theorem kd_ptr {t : TypeId} (h : kd P t = 3) : ∃ e, P.underlying t = some (.pointer e) := by
  unfold kd at h
  split at h
  · simp at h
  · split at h <;> simp at h
  · simp at h
  · exact ⟨_, by assumption⟩
  · simp at h

theorem eqIn_bool (d : Nat) {t : TypeId} (hu : P.underlying t = some .bool) (a b : Bool) (w : World) : (Op.equalIn (d + 1) t (.bool a) (.bool b)).run P w = .ok (a == b) w := by
  simp [Op.equalIn, run_und hu]
theorem eqIn_slice (d : Nat) {t e : TypeId} (hu : P.underlying t = some (.slice e)) (a : Option Addr) (n c n' c' : Nat) (w : World) : (Op.equalIn (d + 1) t (.slice a n c) (.slice none n' c')).run P w = .ok a.isNone w := by
  cases a <;> simp [Op.equalIn, run_und hu]
theorem eqIn_ptr (d : Nat) {t e : TypeId} (hu : P.underlying t = some (.pointer e)) (a : Option Addr) (w : World) : (Op.equalIn (d + 1) t (.pointer a) (.pointer none)).run P w = .ok a.isNone w := by
  cases a <;> simp [Op.equalIn, run_und hu]
theorem run_equal {t : TypeId} {x y : Value} {b : Bool} {w : World} (h : ∀ d, (Op.equalIn (d + 1) t x y).run P w = .ok b w) : (Op.equal t x y).run P w = .ok b w := h 9999
theorem bin_eql_of {t : TypeId} {x y : Value} {b : Bool} {w : World} (h : (Op.equal t x y).run P w = .ok b w) : (do pure (Value.bool (← Op.equal t x y)) : Sem Value).run P w = .ok (.bool b) w := by
  simp [h]
theorem bin_neq_of {t : TypeId} {x y : Value} {b : Bool} {w : World} (h : (Op.equal t x y).run P w = .ok b w) : (do pure (Value.bool (!(← Op.equal t x y))) : Sem Value).run P w = .ok (.bool (!b)) w := by
  simp [h]

theorem run_binV (op : BinOp) (t : TypeId) (x y : Value) (v : Value) (h : binV P op t x y = some v) (w : World) : (binOp op t x y).run P w = .ok v w ∧ x ≠ .nilIface ∧ ∀ c, x ≠ .agg c := by
  unfold binV at h
  split at h
  · exact ⟨run_intV op t _ _ _ _ v h w, by simp, by simp⟩
  · exact ⟨run_strV op t _ _ v h w, by simp, by simp⟩
  · split at h
    · rename_i a b hk
      have hu := kd_bool hk
      refine ⟨?_, by simp, by simp⟩
      have he := run_equal (w := w) fun d => eqIn_bool d hu a b w
      cases op <;> simp only [Option.some.injEq, reduceCtorEq] at h <;> subst h
      · rw [← Bool.beq_eq_decide_eq]; exact bin_eql_of he
      · have : decide (a ≠ b) = !(a == b) := by cases a <;> cases b <;> rfl
        rw [this]; exact bin_neq_of he
    · simp at h
  · split at h
    · rename_i a n c n' c' hk
      obtain ⟨e, hu⟩ := kd_slice hk
      refine ⟨?_, by simp, by simp⟩
      have he := run_equal (w := w) fun d => eqIn_slice d hu a n c n' c' w
      cases op <;> simp only [Option.some.injEq, reduceCtorEq] at h <;> subst h
      · exact bin_eql_of he
      · exact bin_neq_of he
    · simp at h
  · split at h
    · rename_i a hk
      obtain ⟨e, hu⟩ := kd_ptr hk
      refine ⟨?_, by simp, by simp⟩
      have he := run_equal (w := w) fun d => eqIn_ptr d hu a w
      cases op <;> simp only [Option.some.injEq, reduceCtorEq] at h <;> subst h
      · exact bin_eql_of he
      · exact bin_neq_of he
    · simp at h
  · simp at h

theorem run_unV (op : UnOp) (x v : Value) (h : unV op x = some v) (w : World) : (Op.unary op x).run P w = .ok v w := by
  unfold unV at h
  split at h <;> simp at h <;> subst h <;> simp [Op.unary, Op.intArith, Op.intBits]
end quiet

section quiet2
variable {P : Program}

theorem bytesV_map : ∀ (l : List Value) (r : List Int), bytesV l = some r → l = r.map (Value.int .u8)
  | [], r, h => by simp [bytesV] at h; subst h; rfl
  | v :: l, r, h => by
    unfold bytesV at h
    split at h
    · simp_all
    · rename_i n l' e
      simp only [List.cons.injEq] at e
      obtain ⟨e1, e2⟩ := e
      subst e1; subst e2
      simp only [Option.map_eq_some_iff] at h
      obtain ⟨r', h1, h2⟩ := h
      subst h2
      rw [bytesV_map l r' h1]
      rfl
    · simp at h
theorem foldl_push (l : List Int) : ∀ s : ByteArray, l.foldl (fun r n => r.push (UInt8.ofNat n.toNat)) s = ⟨s.data ++ (l.map fun n => UInt8.ofNat n.toNat).toArray⟩ := by
  induction l with
  | nil => intro s; simp
  | cons n l ih =>
    intro s
    rw [List.foldl_cons, ih]
    simp [ByteArray.push]

theorem run_convV (w0 : World) (h : Heap) (dr : Nat) (s d : TypeId) (x v : Value) (hv : convV P h s d x = some v) : (convert s d x).run P (wd w0 h dr) = .ok v (wd w0 h dr) := by
  unfold convV at hv
  split at hv
  · rename_i k hk
    split at hv
    · rename_i k' n
      split at hv
      · rename_i hs
        simp only [Option.some.injEq] at hv; subst hv
        unfold inK at hk
        split at hk
        · rename_i k'' hu
          simp only [Option.some.injEq] at hk; subst hk
          obtain ⟨ds, hds⟩ := Option.isSome_iff_exists.1 hs
          simp only [convert, Sem.run_bind, run_und hds, run_und hu, Result.andThen_ok]
          cases ds <;> rfl
        · simp at hk
      · simp at hv
    · simp at hv
  · split at hv
    · rename_i hk
      obtain ⟨hk0, hk1⟩ := hk
      have hu := kd_string hk0
      obtain ⟨e, hu1, hu2⟩ := kd_bytes hk1
      split at hv
      · simp only [Option.some.injEq] at hv; subst hv
        simp only [convert, Sem.run_bind, run_und hu, run_und hu1, run_und hu2, Result.andThen_ok]
        rfl
      · rename_i a n c
        simp only [Option.map_eq_some_iff, Option.bind_eq_some_iff] at hv
        obtain ⟨l, ⟨cs, h1, h2⟩, h3⟩ := hv
        subst h3
        simp only [convert, Sem.run_bind, run_und hu, run_und hu1, run_und hu2, Result.andThen_ok]
        have e1 := run_cellsH (P := P) w0 h dr a n cs h1
        rw [bytesV_map cs l h2] at e1
        rw [run_bytesToString _ a n c l e1, foldl_push]
        simp [mkS]
      · simp at hv
    · simp at hv
end quiet2

section quiet3
variable {P : Program}

theorem run_bound (w : World) (k : IntKind) (i : Int) (y : Nat) (c : BoundsCode) (h0 : 0 ≤ i) (h1 : i ≤ y) : (Instr.sliceBound (.int k i) y c).run P w = .ok i.toNat w := by
  simp [Instr.sliceBound, asIntOf, h0, h1]

theorem run_bounds (w : World) (b : Bool) (len cap : Nat) (lo hi : Option Value) (l u : Int) (hl : loV lo = some l) (hu : (match hi with | none => some (len : Int) | some v => loV (some v)) = some u)
    (h0 : 0 ≤ l) (h1 : l ≤ u) (h2 : u ≤ cap) : (Instr.sliceBounds b len cap lo hi none).run P w = .ok (l.toNat, u.toNat, cap) w := by
  cases lo with
  | none =>
    simp [loV] at hl; subst hl
    cases hi with
    | none => simp at hu; subst hu; simp [Instr.sliceBounds]
    | some v =>
      cases v <;> simp [loV] at hu
      subst hu
      simp [Instr.sliceBounds, run_bound w _ _ cap _ h1 h2]
  | some v =>
    cases v <;> simp [loV] at hl
    subst hl
    cases hi with
    | none =>
      simp at hu; subst hu
      simp [Instr.sliceBounds, run_bound w _ _ len _ h0 h1]
    | some v =>
      cases v <;> simp [loV] at hu
      subst hu
      rename_i l k u
      have e : (u.toNat : Int) = u := by omega
      simp [Instr.sliceBounds, run_bound w _ _ cap _ (by omega : 0 ≤ u) h2, run_bound w _ _ u.toNat _ h0 (by omega : l ≤ (u.toNat : Int))]

theorem elS_spec {t : TypeId} {s : Nat} (h : elS P t = some s) : ∃ e, P.underlying t = some (.slice e) ∧ sz P e = some s := by
  unfold elS at h
  split at h
  · exact ⟨_, by assumption, h⟩
  · simp at h
theorem arS_spec {t : TypeId} {n s : Nat} (h : arS P t = some (n, s)) : ∃ e, P.underlying t = some (.array n e) ∧ sz P e = some s := by
  unfold arS at h
  split at h
  · rename_i m e hu
    simp only [Option.map_eq_some_iff, Prod.mk.injEq] at h
    obtain ⟨s', h1, h2, h3⟩ := h
    subst h2; subst h3
    exact ⟨e, hu, h1⟩
  · simp at h

theorem run_sliceV (w : World) (t : TypeId) (x : Value) (lo hi : Option Value) (v : Value) (h : sliceV P t x lo hi = some v) : (Instr.sliceAt t x lo hi none).run P w = .ok v w := by
  unfold sliceV at h
  split at h
  · rename_i s
    split at h
    · rename_i hk
      have hu := kd_string hk
      split at h
      · rename_i l u hl hu'
        split at h
        · rename_i hc
          simp only [Option.some.injEq] at h; subst h
          simp [Instr.sliceAt, run_und hu, Instr.slice, run_bounds w false s.size s.size lo hi l u hl hu' hc.1 hc.2.1 (by omega)]
        · simp at h
      · simp at h
    · simp at h
  · rename_i a len cap
    split at h
    · rename_i size hs
      obtain ⟨e, hu, hz⟩ := elS_spec hs
      split at h
      · rename_i l u hl hu'
        split at h
        · rename_i hc
          simp only [Option.some.injEq] at h; subst h
          simp [Instr.sliceAt, run_und hu, Instr.slice, run_sz hz, run_bounds w true len cap lo hi l u hl hu' hc.1 hc.2.1 (by omega)]
        · simp at h
      · simp at h
    · simp at h
  · rename_i a
    split at h
    · rename_i n size hs
      obtain ⟨e, hu, hz⟩ := arS_spec hs
      split at h
      · rename_i l u hl hu'
        split at h
        · rename_i hc
          simp only [Option.some.injEq] at h; subst h
          simp [Instr.sliceAt, run_und hu, Instr.sureAddr, run_sz hz, run_bounds w false n n lo hi l u hl hu' hc.1 hc.2.1 (by omega)]
        · simp at h
      · simp at h
    · simp at h
  · simp at h

theorem run_places (w : World) : ∀ (fs : List Field) (l : List (Nat × Nat)), placesV P fs = some l → ∀ acc : List (Nat × Nat), (List.mapM.loop (m := Sem) (fun f : Field => do pure (f.offset, ← sizeOf f.type)) fs acc).run P w = .ok (acc.reverse ++ l) w
  | [], l, h, acc => by simp [placesV] at h; subst h; simp [List.mapM.loop]
  | f :: fs, l, h, acc => by
    simp only [placesV] at h
    split at h
    · rename_i s l' h1 h2
      simp only [Option.some.injEq] at h; subst h
      have := run_places w fs l' h2 ((f.offset, s) :: acc)
      simp only [List.mapM.loop, Sem.run_bind, run_sz h1, Result.andThen_ok, Sem.run_pure, this]
      simp
    · simp at h

theorem run_buildV (w : World) (t : TypeId) (parts : List (Nat × Value)) (v : Value) (h : buildV P t parts = some v) : (Instr.build t parts.toArray).run P w = .ok v w := by
  unfold buildV at h
  split at h
  · rename_i z hz
    split at h
    · rename_i fs hu
      split at h
      · rename_i pl hpl
        simp only [Option.map_eq_some_iff] at h
        obtain ⟨cs, h1, h2⟩ := h
        subst h2
        have e : (fs.mapM (m := Sem) fun f => do pure (f.offset, ← sizeOf f.type)).run P w = .ok pl.toArray w := by
          rw [Array.mapM_eq_mapM_toList]
          simp only [List.mapM, Sem.run_map, run_places w fs.toList pl hpl []]
          simp
        simp only [Instr.build, Sem.run_bind, run_zV hz, run_und hu, Result.andThen_ok, e, h1]
        simp
      · simp at h
    · rename_i n e hu
      split at h
      · rename_i size hs
        simp only [Option.map_eq_some_iff] at h
        obtain ⟨cs, h1, h2⟩ := h
        subst h2
        simp only [Instr.build, Sem.run_bind, run_zV hz, run_und hu, Result.andThen_ok, run_sz hs, h1]
        simp
      · simp at h
    · simp at h
  · simp at h
end quiet3

section quiet4
variable {P : Program}

theorem run_index (w : World) (t : TypeId) (hk : kd P t = 0) (s : ByteArray) (k : IntKind) (i : Int) (h0 : 0 ≤ i) (h1 : i < s.size) : (Instr.index t (.string s) (.int k i)).run P w = .ok (.int .u8 (bAt s i.toNat)) w := by
  have hu := kd_string hk
  have hlt : i.toNat < s.size := by omega
  have e : s[i.toNat]? = some s[i.toNat] := by simp [hlt]
  have hlt' : i.toNat < s.data.size := hlt
  have e2 : bAt s i.toNat = (s[i.toNat]).toNat := by
    unfold bAt
    rw [Array.getElem?_eq_getElem hlt']
    rfl
  simp [Instr.index, asIntOf, run_und hu, h0, e, e2]

theorem run_q {n : Nat} {env : Env} {a : Act} (hs : Sees n env a) (w0 : World) (h : Heap) (d : Nat) (o : Oper) (v : Value) (hq : qV P env h o.op = some v) :
    (execOp a.eval o).run P (wd w0 h d) = .ok (.value v) (wd w0 h d) := by
  obtain ⟨dst, op, ty, pos, aft, g⟩ := o
  simp only at hq
  cases op with
  | move x => simp [qV] at hq; simp [execOp, hs.eval hq]
  | assign x => simp [qV] at hq; simp [execOp, hs.eval hq]
  | pick c x y =>
    simp only [qV] at hq
    split at hq
    · rename_i hc; simp [execOp, hs.eval hc, asBool, hs.eval hq]
    · rename_i hc; simp [execOp, hs.eval hc, asBool, hs.eval hq]
    · simp at hq
  | nilCheck x =>
    simp only [qV] at hq
    split at hq
    · rename_i ad hx
      simp only [Option.some.injEq] at hq; subst hq
      simp [execOp, hs.eval hx]
    · simp at hq
  | binOp op t x y _ =>
    simp only [qV] at hq
    split at hq
    · rename_i p q hx hy
      obtain ⟨r1, r2, r3⟩ := run_binV op t p q v hq (wd w0 h d)
      simp [execOp, hs.eval hx, hs.eval hy, eqGuard_pass op t x y p q _ r2 r3, r1]
    · simp at hq
  | unOp op t x =>
    simp only [qV] at hq
    split at hq
    · rename_i p hx
      simp [execOp, hs.eval hx, run_unV op p v hq]
    · simp at hq
  | convert s t x =>
    simp only [qV] at hq
    split at hq
    · rename_i p hx
      simp [execOp, hs.eval hx, run_convV w0 h d s t p v hq]
    · simp at hq
  | fieldAddr s x f =>
    simp only [qV] at hq
    split at hq
    · rename_i ad off hx hf
      simp only [Option.some.injEq] at hq; subst hq
      unfold fOff at hf
      split at hf
      · rename_i fs hu
        split at hf
        · rename_i fd hfd
          split at hf
          · rename_i i hi
            split at hf
            · simp at hf
            · rename_i hne
              simp only [Option.some.injEq] at hf; subst hf
              have hz : sz P fd.type = some i.size := by simp [sz, hi]
              simp [execOp, hs.eval hx, Instr.fieldAt, run_und hu, hfd, Instr.sureAddr, fieldPlace, run_sz hz, hne]
          · simp at hf
        · simp at hf
      · simp at hf
    · simp at hq
  | indexAddr t x i =>
    simp only [qV] at hq
    split at hq
    · rename_i ad len cap k ix hx hi
      split at hq
      · rename_i size he
        obtain ⟨e, hu, hz⟩ := elS_spec he
        split at hq
        · rename_i hc
          simp only [Option.some.injEq] at hq; subst hq
          simp [execOp, hs.eval hx, hs.eval hi, Instr.indexAt, asIntOf, run_und hu, run_sz hz, hc]
        · simp at hq
      · simp at hq
    · rename_i ad k ix hx hi
      split at hq
      · rename_i len size he
        obtain ⟨e, hu, hz⟩ := arS_spec he
        split at hq
        · rename_i hc
          simp only [Option.some.injEq] at hq; subst hq
          simp [execOp, hs.eval hx, hs.eval hi, Instr.indexAt, asIntOf, run_und hu, run_sz hz, hc, Instr.sureAddr]
        · simp at hq
      · simp at hq
    · simp at hq
  | index t x i =>
    simp only [qV] at hq
    split at hq
    · rename_i s k ix hx hi
      split at hq
      · rename_i hc
        simp only [Option.some.injEq] at hq; subst hq
        simp [execOp, hs.eval hx, hs.eval hi, run_index _ t hc.1 s k ix hc.2.1 hc.2.2]
      · simp at hq
    · simp at hq
  | slice t x lo hi mx =>
    cases mx with
    | some m => simp [qV] at hq
    | none =>
      simp only [qV] at hq
      split at hq
      · rename_i p l u hx hl hu
        simp only [execOp, hs.eval hx, hs.evalo hl, hs.evalo hu, Option.map_none, Sem.run_bind, run_sliceV _ t p l u v hq, Result.andThen_ok, Sem.run_pure]
      · simp at hq
  | extract x i =>
    simp only [qV] at hq
    split at hq
    · rename_i vs hx
      simp [execOp, hs.eval hx, Instr.extract, hq]
    · simp at hq
  | load t x =>
    simp only [qV] at hq
    split at hq
    · rename_i ad hx
      simp [execOp, hs.eval hx, Instr.loadAt, Instr.sureAddr, run_loadV w0 h d t ad v hq]
    · simp at hq
  | build t parts =>
    simp only [qV] at hq
    split at hq
    · rename_i l hl
      have e : parts.map (fun x => (x.1, a.eval x.2)) = l.toArray := by
        rw [← hs.evalps hl, ← Array.toList_map, Array.toArray_toList]
      have e2 : (parts.map fun (x : Nat × Operand) => match x with | (i, x) => (i, a.eval x)) = l.toArray := by
        rw [← e]
      simp only [execOp, Sem.run_bind, e2, run_buildV _ t l v hq, Result.andThen_ok, Sem.run_pure]
    · simp at hq
  | call c =>
    obtain ⟨cal, args, tys⟩ := c
    simp only [qV] at hq
    split at hq
    · rename_i x t hargs htys
      have e1 : args = #[x] := by rw [← Array.toList_inj]; simpa using hargs
      have e2 : tys = #[t] := by rw [← Array.toList_inj]; simpa using htys
      subst e1; subst e2
      split at hq
      · rename_i s hx
        split at hq
        · rename_i hk
          simp only [Option.some.injEq] at hq; subst hq
          simp [execOp, resolve, invoke, builtin, Builtin.len_, hs.eval hx, run_und (kd_string hk), goInt]
        · simp at hq
      · rename_i b m c hx
        split at hq
        · rename_i hk
          simp only [Option.some.injEq] at hq; subst hq
          obtain ⟨s, hk⟩ := Option.isSome_iff_exists.1 hk
          obtain ⟨e, hu, _⟩ := elS_spec hk
          simp [execOp, resolve, invoke, builtin, Builtin.len_, hs.eval hx, run_und hu, goInt]
        · simp at hq
      · simp at hq
    · rename_i x t hargs htys
      have e1 : args = #[x] := by rw [← Array.toList_inj]; simpa using hargs
      have e2 : tys = #[t] := by rw [← Array.toList_inj]; simpa using htys
      subst e1; subst e2
      split at hq
      · rename_i b m c hx
        split at hq
        · rename_i hk
          simp only [Option.some.injEq] at hq; subst hq
          obtain ⟨s, hk⟩ := Option.isSome_iff_exists.1 hk
          obtain ⟨e, hu, _⟩ := elS_spec hk
          simp [execOp, resolve, invoke, builtin, Builtin.cap_, hs.eval hx, run_und hu, goInt]
        · simp at hq
      · simp at hq
    · simp at hq
  | _ => simp [qV] at hq
end quiet4

/-! ### operations that make memory, that write, that call -/
/-- element type, cells, bytes, the zero's cells -/
def elI (P : Program) (t : TypeId) : Option (TypeId × Nat × Nat × Array Value) :=
  match P.underlying t with
  | some (.slice e) => match P.info? e with
    | some i => match i.zero with
      | some z => some (e, i.size, i.bytes, z.cells)
      | none => none
    | none => none
  | _ => none

def mkZ (z : Array Value) (n : Nat) : Array Value := (Array.range n).map fun i => z[i % z.size]!

def aV (P : Program) (env : Env) (n : Nat) : Op → Option (Value × Array Value × TypeId)
  | .alloc t => match zV P t with
    | some z => some (.pointer (some ⟨n, 0, none⟩), z.cells, t)
    | none => none
  | .box t x => match ev env x with
    | some v => some (.pointer (some ⟨n, 0, none⟩), v.cells, t)
    | none => none
  | .makeSlice t l c => match elI P t, ev env l, ev env c with
    | some (e, size, bytes, z), some (.int _ l), some (.int _ c) =>
      if 0 ≤ l ∧ l ≤ c ∧ c < 9223372036854775808 ∧ bytes * c ≤ 281474976710656 then some (.slice (some ⟨n, 0, none⟩) l.toNat c.toNat, mkZ z (c.toNat * size), e) else none
    | _, _, _ => none
  | .buildSlice t len parts => match elI P t, evps env parts.toList with
    | some (e, size, _, z), some ps => if len * size ≤ 16777216 ∧ 0 < len * size then
        match Instr.fill (fun i => some (i * size, size)) (mkZ z (len * size)) ps with
        | some cs => some (.slice (some ⟨n, 0, none⟩) len len, cs, e)
        | none => none
      else none
    | _, _ => none
  | _ => none

def storeV (P : Program) (h : Heap) (t : TypeId) (a : Addr) (v : Value) : Option Heap :=
  if sz P t = some v.cells.size then storeCs h a 0 v.cells.toList else none

def hasB (P : Program) (f : FuncId) : Bool :=
  match P.funcs[f]? with
  | some fn => fn.name != "runtime.NumGoroutine" && fn.body.isSome
  | none => false

/-- the cells of the first n elements of a slice, or the bytes of a string -/
def srcV (h : Heap) (size n : Nat) : Value → Option (List Value)
  | .slice (some a) _ _ => cellsH h a 0 (n * size)
  | .slice none _ _ => some []
  | .string s => some ((s.extract 0 n).data.toList.map fun b => .int .u8 b.toNat)
  | _ => none
def lenV : Value → Option Nat
  | .slice _ n _ => some n
  | .string s => some s.size
  | _ => none

def appW (P : Program) (h : Heap) (K : Value → Heap → Prop) (sT xT : TypeId) (s x : Value) : Prop :=
  ∃ e size bytes z base sLen sCap n new, elI P sT = some (e, size, bytes, z) ∧ s = .slice base sLen sCap ∧ lenV x = some n ∧ (∀ k, P.underlying xT ≠ some (.int k)) ∧ (P.underlying xT).isSome ∧
    srcV h size n x = some new ∧
    ((sLen + n ≤ sCap ∧ ∃ h', (match base with | some a => storeCs h (a.add (sLen * size)) 0 new | none => some h) = some h' ∧ K (.slice base (sLen + n) sCap) h') ∨
     (sCap < sLen + n ∧ sLen + n < 9223372036854775808 ∧ Builtin.nextslicecap (sLen + n) sCap * bytes ≤ 281474976710656 ∧ ∃ old, srcV h size sLen s = some old ∧
       ∀ c, sLen + n ≤ c → c < 9223372036854775808 → K (.slice (some ⟨h.size, 0, none⟩) (sLen + n) c) (h.push (.cells ((old ++ new).toArray ++ mkZ z ((c - (sLen + n)) * z.size)) e))))

def copyW (P : Program) (h : Heap) (K : Value → Heap → Prop) (dT : TypeId) (dst src : Value) : Prop :=
  ∃ size base dLen dCap n cs h', elS P dT = some size ∧ dst = .slice base dLen dCap ∧ lenV src = some n ∧ srcV h size (min n dLen) src = some cs ∧
    (match base with | some a => storeCs h a 0 cs | none => some h) = some h' ∧ K (.int .i64 (min n dLen : Nat)) h'

def lW (P : Program) (env : Env) (h : Heap) (K : Value → Heap → Prop) : Op → Prop
  | .store t a x => ∃ ad v h', ev env a = some (.pointer (some ad)) ∧ ev env x = some v ∧ storeV P h t ad v = some h' ∧ K undef h'
  | .call c => match c.callee, c.argTypes.toList with
    | .value (.func f), _ => ∃ vs, evs env c.args.toList = some vs ∧ hasB P f = true ∧ FC P f vs.toArray h K
    | .builtin .append, [sT, xT] => ∃ s x, evs env c.args.toList = some [s, x] ∧ appW P h K sT xT s x
    | .builtin .copy, [dT, _] => ∃ s x, evs env c.args.toList = some [s, x] ∧ copyW P h K dT s x
    | _, _ => False
  | _ => False

/-- 0: it looks at its operands alone · 1: it reads memory · 2: it makes memory · 3: all else -/
def cls (P : Program) : Op → Nat
  | .move _ | .assign _ | .pick .. | .nilCheck _ | .binOp .. | .unOp .. | .fieldAddr .. | .indexAddr .. | .index .. | .slice .. | .extract .. | .build .. => 0
  | .load .. => 1
  | .convert _ d _ => match inK P d with
    | some _ => 0
    | none => 1
  | .call c => match c.callee with
    | .builtin .len => 0
    | .builtin .cap => 0
    | _ => 3
  | .alloc _ | .box .. | .makeSlice .. | .buildSlice .. => 2
  | _ => 3

def opW (P : Program) (env : Env) (h : Heap) (K : Value → Heap → Prop) (op : Op) : Prop :=
  match cls P op with
  | 0 => ∃ v, qV P env h op = some v ∧ K v h
  | 1 => ∃ v, qV P env h op = some v ∧ K v h
  | 2 => ∃ v cs t, aV P env h.size op = some (v, cs, t) ∧ K v (h.push (.cells cs t))
  | _ => lW P env h K op

section loud
variable {P : Program}

theorem elI_spec {t e : TypeId} {size bytes : Nat} {z : Array Value} (h : elI P t = some (e, size, bytes, z)) : ∃ i zv, P.underlying t = some (.slice e) ∧ P.info? e = some i ∧ i.size = size ∧ i.bytes = bytes ∧ i.zero = some zv ∧ zv.cells = z := by
  unfold elI at h
  split at h
  · rename_i e' hu
    split at h
    · rename_i i hi
      split at h
      · rename_i zv hz
        simp only [Option.some.injEq, Prod.mk.injEq] at h
        obtain ⟨rfl, rfl, rfl, rfl⟩ := h
        exact ⟨i, zv, hu, hi, rfl, rfl, hz, rfl⟩
      · simp at h
    · simp at h
  · simp at h

theorem wrap_i64 {n : Int} (h0 : -9223372036854775808 ≤ n) (h1 : n < 9223372036854775808) : IntKind.i64.wrap n = n := by
  simp only [IntKind.wrap, IntKind.signed, IntKind.bits]
  simp
  split <;> omega

theorem mkZ_zero (z : Array Value) : mkZ z 0 = #[] := by simp [mkZ]

theorem run_aV {n : Nat} {env : Env} {a : Act} (hs : Sees n env a) (w0 : World) (h : Heap) (d : Nat) (o : Oper) (v : Value) (cs : Array Value) (t : TypeId) (hq : aV P env h.size o.op = some (v, cs, t)) :
    (execOp a.eval o).run P (wd w0 h d) = .ok (.value v) (wd w0 (h.push (.cells cs t)) d) := by
  obtain ⟨dst, op, ty, pos, aft, g⟩ := o
  simp only at hq
  cases op with
  | alloc e =>
    simp only [aV] at hq
    split at hq
    · rename_i z hz
      simp only [Option.some.injEq, Prod.mk.injEq] at hq
      obtain ⟨rfl, rfl, rfl⟩ := hq
      simp [execOp, Instr.alloc, run_zV hz, newVar, newRow, wd]
      rfl
    · simp at hq
  | box e x =>
    simp only [aV] at hq
    split at hq
    · rename_i z hz
      simp only [Option.some.injEq, Prod.mk.injEq] at hq
      obtain ⟨rfl, rfl, rfl⟩ := hq
      simp [execOp, Instr.box, hs.eval hz, newVar, newRow, wd]
    · simp at hq
  | makeSlice e l c =>
    simp only [aV] at hq
    split at hq
    · rename_i et size bytes z k l' k' c' he hl hc
      split at hq
      · rename_i hcond
        obtain ⟨c0, c1, c2, c3⟩ := hcond
        simp only [Option.some.injEq, Prod.mk.injEq] at hq
        obtain ⟨rfl, rfl, rfl⟩ := hq
        obtain ⟨i, zv, hu, hi, rfl, rfl, hz, rfl⟩ := elI_spec he
        have hsz : sz P et = some i.size := by simp [sz, hi]
        have hzv : zV P et = some zv := by simp [zV, hi, hz]
        have w1 : IntKind.i64.wrap l' = l' := wrap_i64 (by omega) (by omega)
        have w2 : IntKind.i64.wrap c' = c' := wrap_i64 (by omega) (by omega)
        have t1 : (decide (c' < 0) || decide ((i.bytes : Int) * c' > 2 ^ 48)) = false := by
          simp only [Bool.or_eq_false_iff, decide_eq_false_iff_not]
          exact ⟨by omega, by have : (2 : Int) ^ 48 = 281474976710656 := by decide
                              omega⟩
        have t2 : (decide (l' < 0) || decide (l' > c')) = false := by simp; omega
        have hcc : ((decide (c' < 0) || decide ((i.bytes : Int) * c' > 2 ^ 48)) || decide (l' < 0) || decide (l' > c')) = false := by
          rw [t1]; simpa using t2
        simp only [execOp, Instr.makeSlice, hs.eval hl, hs.eval hc, Sem.run_bind, run_und hu, Result.andThen_ok, asInt, asIntOf, Sem.run_pure, typeInfo, run_program, hi, w1, w2]
        rw [hcc]
        simp only [Bool.false_eq_true, if_false, Sem.run_bind, Sem.run_pure, Result.andThen_ok, run_askRoom, run_sz hsz, Sem.run_ite]
        by_cases hn : c'.toNat * i.size = 0
        · have e0 : (Array.range 0).map (fun _ => (default : Value)) = #[] := by simp [Array.range]
          simp [hn, newRow, wd, mkZ_zero, e0]
        · simp [hn, run_zV hzv, newRow, wd, mkZ]
          rfl
      · simp at hq
    · simp at hq
  | buildSlice e len parts =>
    simp only [aV] at hq
    split at hq
    · rename_i et size bytes z ps he hps
      split at hq
      · rename_i hcond
        obtain ⟨c0, c1⟩ := hcond
        split at hq
        · rename_i cells hf
          simp only [Option.some.injEq, Prod.mk.injEq] at hq
          obtain ⟨rfl, rfl, rfl⟩ := hq
          obtain ⟨i, zv, hu, hi, rfl, rfl, hz, rfl⟩ := elI_spec he
          have hsz : sz P et = some i.size := by simp [sz, hi]
          have hzv : zV P et = some zv := by simp [zV, hi, hz]
          have e1 : parts.map (fun x => (x.1, a.eval x.2)) = ps.toArray := by
            rw [← hs.evalps hps, ← Array.toList_map, Array.toArray_toList]
          have e2 : (parts.map fun (x : Nat × Operand) => match x with | (i, x) => (i, a.eval x)) = ps.toArray := by
            rw [← e1]
          have n1 : ¬ (len * i.size > 2 ^ 24) := by have : (2 : Nat) ^ 24 = 16777216 := by decide
                                                    omega
          have n2 : ¬ (len * i.size = 0) := by omega
          simp only [execOp, e2, Instr.buildSlice, Sem.run_bind, run_und hu, Result.andThen_ok, run_sz hsz, Sem.run_ite, n1, if_false, Sem.run_pure, n2, run_zV hzv]
          unfold mkZ at hf
          simp only [hf]
          simp [newRow, wd]
        · simp at hq
      · simp at hq
    · simp at hq
  | _ => simp [aV] at hq
end loud

section loud2
variable {P : Program}

theorem run_storeCs (w0 : World) (d : Nat) (a : Addr) : ∀ (vs : List Value) (i : Nat) (h h' : Heap), storeCs h a i vs = some h' → (storeCells a vs i).run P (wd w0 h d) = .ok () (wd w0 h' d)
  | [], i, h, h', hh => by simp [storeCs] at hh; subst hh; simp [storeCells]
  | v :: r, i, h, h', hh => by
    simp only [storeCs] at hh
    split at hh
    · rename_i hc
      simp only [Bool.and_eq_true, okPut, Bool.not_eq_true'] at hc
      obtain ⟨h1, h2, h3⟩ := hc
      obtain ⟨u, hu⟩ := Option.isSome_iff_exists.1 h2
      have := run_storeCs w0 d a r (i + 1) (putH h (a.add i) v) h' hh
      simp only [storeCells, Sem.run_bind]
      rw [run_store P (wd w0 h d) (a.add i) v .plain h1]
      simp only [cell_wd, hu, frozen_wd, h3, Bool.false_eq_true, if_false, Result.andThen_ok, set_wd]
      exact this
    · simp at hh

theorem run_storeV (w0 : World) (h : Heap) (d : Nat) (t : TypeId) (a : Addr) (v : Value) (h' : Heap) (hh : storeV P h t a v = some h') : (storeVar t a v).run P (wd w0 h d) = .ok () (wd w0 h' d) := by
  unfold storeV at hh
  split at hh
  · rename_i hz
    simp only [storeVar, Sem.run_bind, run_sz hz, Result.andThen_ok, ne_eq, not_true_eq_false, if_false]
    exact run_storeCs w0 d a _ 0 h h' hh
  · simp at hh

theorem run_src (w0 : World) (h : Heap) (d : Nat) (size n : Nat) (x : Value) (cs : List Value) (hc : srcV h size n x = some cs) : (Builtin.firstCells size n x).run P (wd w0 h d) = .ok cs.toArray (wd w0 h d) := by
  unfold srcV at hc
  split at hc
  · simp only [Builtin.firstCells]; exact run_cellsH w0 h d _ _ _ hc
  · simp only [Option.some.injEq] at hc; subst hc; simp [Builtin.firstCells]
  · simp only [Option.some.injEq] at hc; subst hc
    rename_i s
    have e : (s.extract 0 n).data.map (fun b => Value.int .u8 b.toNat) = ((s.extract 0 n).data.toList.map fun b => Value.int .u8 b.toNat).toArray := by
      rw [← Array.toList_map, Array.toArray_toList]
    simp only [Builtin.firstCells, e]
    rfl
  · simp at hc

theorem run_len (w : World) (x : Value) (n : Nat) (hc : lenV x = some n) : (Builtin.lenOf x).run P w = .ok n w := by
  unfold lenV at hc
  split at hc <;> simp at hc <;> subst hc <;> simp [Builtin.lenOf]

theorem run_copyW (w0 : World) (h : Heap) (d : Nat) (K : Value → Heap → Prop) (dT xT ty : TypeId) (dst src : Value) (hc : copyW P h K dT dst src) :
    ∃ v h', (Builtin.copy_ #[dT, xT] ty #[dst, src]).run P (wd w0 h d) = .ok v (wd w0 h' d) ∧ K v h' := by
  obtain ⟨size, base, dLen, dCap, n, cs, h', he, rfl, hn, hcs, hst, hK⟩ := hc
  obtain ⟨e, hu, hz⟩ := elS_spec he
  refine ⟨_, h', ?_, hK⟩
  have hm : Nat.min n dLen = min n dLen := rfl
  simp only [Builtin.copy_, List.getElem?_toArray, List.getElem?_cons_zero, List.getElem?_cons_succ, Sem.run_bind, run_und hu, Result.andThen_ok, run_len _ src n hn, run_sz hz, hm, run_src w0 h d size _ src cs hcs]
  cases base with
  | none =>
    simp only [Option.some.injEq] at hst; subst hst
    simp [goInt]
  | some a =>
    simp only at hst
    simp [run_storeCs (P := P) w0 d a cs 0 h h' hst, goInt]

theorem cut_cap (need old : Nat) (e : TypeId) (t : Nat) (h : need < 9223372036854775808) : need ≤ (Question.appendCap need old e).cut t ∧ (Question.appendCap need old e).cut t < 9223372036854775808 := by
  simp only [Question.cut]
  have h63 : (2 : Nat) ^ 63 = 9223372036854775808 := by decide
  rw [h63]
  have := Nat.mod_lt t (show 0 < 9223372036854775808 - need by omega)
  omega

theorem zeroCells_eq (z : Array Value) (n : Nat) : Builtin.zeroCells z n = mkZ z (n * z.size) := rfl

theorem run_appW (w0 : World) (h : Heap) (d : Nat) (K : Value → Heap → Prop) (sT xT ty : TypeId) (s x : Value) (hc : appW P h K sT xT s x) :
    ∃ v h' d', (Builtin.append_ #[sT, xT] ty #[s, x]).run P (wd w0 h d) = .ok v (wd w0 h' d') ∧ K v h' := by
  obtain ⟨e, size, bytes, z, base, sLen, sCap, n, new, he, rfl, hn, hni, hxs, hnew, hh⟩ := hc
  obtain ⟨i, zv, hu, hi, rfl, rfl, hz, rfl⟩ := elI_spec he
  have hsz : sz P e = some i.size := by simp [sz, hi]
  have hzv : zV P e = some zv := by simp [zV, hi, hz]
  obtain ⟨dx, hdx⟩ := Option.isSome_iff_exists.1 hxs
  have hty : ∀ w : World, (typeInfo e).run P w = .ok i w := fun w => by simp [typeInfo, hi]
  rcases hh with ⟨hle, h', hst, hK⟩ | ⟨hgt, h63, h48, old, hold, hK⟩
  · refine ⟨_, h', d, ?_, hK⟩
    cases dx <;> (first | exact absurd hdx (hni _) | skip) <;>
    simp only [Builtin.append_, List.getElem?_toArray, List.getElem?_cons_zero, List.getElem?_cons_succ, Sem.run_bind, run_und hu, run_und hdx, Result.andThen_ok, run_sz hsz, Sem.run_pure, run_len _ x n hn, Bool.false_eq_true, if_false, Bool.not_false, if_true, hle, run_src w0 h d _ n x new hnew] <;>
    cases base with
    | none =>
      simp only [Option.some.injEq] at hst; subst hst
      simp only [Sem.run_pure]
    | some a =>
      simp only at hst
      simp only [run_storeCs (P := P) w0 d _ new 0 h h' hst, Sem.run_pure, Sem.run_bind, Result.andThen_ok]
  · have hc1 := cut_cap (sLen + n) sCap e (w0.tape d (.appendCap (sLen + n) sCap e)) h63
    refine ⟨_, _, d + 1, ?_, hK _ hc1.1 hc1.2⟩
    have hm : (IntKind.i64.max) = 9223372036854775807 := by decide
    have n1 : ¬ (((sLen + n : Nat) : Int) > IntKind.i64.max ∧ (false = true ∨ i.bytes = 0)) := by rw [hm]; omega
    have h48' : ¬ (Builtin.nextslicecap (sLen + n) sCap * i.bytes > 2 ^ 48) := by
      have : (2 : Nat) ^ 48 = 281474976710656 := by decide
      omega
    have hle : ¬ (sLen + n ≤ sCap) := by omega
    have hch : ∀ w : World, (choose (.appendCap (sLen + n) sCap e)).run P w = .ok ((Question.appendCap (sLen + n) sCap e).cut (w.tape w.drawn (.appendCap (sLen + n) sCap e))) { w with drawn := w.drawn + 1 } := fun w => by
      simp [choose, Sem.run, Question.forced]
    have hwd : ({ (wd w0 h d) with drawn := (wd w0 h d).drawn + 1 } : World) = wd w0 h (d + 1) := rfl
    have htape : (wd w0 h d).tape (wd w0 h d).drawn (.appendCap (sLen + n) sCap e) = w0.tape d (.appendCap (sLen + n) sCap e) := rfl
    cases dx <;> (first | exact absurd hdx (hni _) | skip) <;>
      (simp only [Builtin.append_, List.getElem?_toArray, List.getElem?_cons_zero, List.getElem?_cons_succ, Sem.run_bind, run_und hu, run_und hdx, Result.andThen_ok, run_sz hsz, Sem.run_pure, run_len _ x n hn, Bool.false_eq_true, if_false, Bool.not_false, if_true, hle, hty]
       rw [if_neg (by simpa using n1)]
       simp only [Sem.run_bind, Result.andThen_ok, hty]
       rw [if_neg h48']
       simp only [Sem.run_bind, Sem.run_pure, Result.andThen_ok, hty, hch, hwd, htape, run_askRoom, run_src w0 h (d + 1) _ sLen _ old hold, run_src w0 h (d + 1) _ n x new hnew, run_zV hzv, newRow, run_newObj, zeroCells_eq, List.append_toArray]
       rfl)
end loud2
theorem pw_of {α : Type} {R S : α → α → Prop} (f : ∀ {a b : α}, R a b → S a b) : ∀ {l : List α}, l.Pairwise R → l.Pairwise S
  | [], _ => List.Pairwise.nil
  | x :: l, h => by
    rw [List.pairwise_cons] at h ⊢
    exact ⟨fun y hy => f (h.1 y hy), pw_of f h.2⟩
end Go.Eng
