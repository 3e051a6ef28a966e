import Derived.Test.Qxb6500401aGreatEc
set_option linter.unusedVariables false
set_option linter.unusedSimpArgs false
namespace Go.Eng

/-! ### blocks -/
def arr (n : Nat) (f : Nat → Value) : Array Value := (Array.range n).map f
/-- block b holds just these cells (of type t), and may be written -/
def B (h : Heap) (b : Nat) (cs : Array Value) (t : TypeId) : Prop := h[b]? = some (.cells cs t (0, 0))
/-- outside S nothing has turned; no block has gone -/
def Ext (S : Nat → Prop) (h h' : Heap) : Prop := h.size ≤ h'.size ∧ ∀ b, b < h.size → ¬ S b → h'[b]? = h[b]?

theorem arr_size (n : Nat) (f : Nat → Value) : (arr n f).size = n := by simp [arr]
theorem arr_get {n : Nat} {f : Nat → Value} {i : Nat} (hi : i < n) : (arr n f)[i]? = some (f i) := by simp [arr, hi]
theorem arr_ext {n : Nat} {f g : Nat → Value} (h : ∀ i, i < n → f i = g i) : arr n f = arr n g := by
  unfold arr
  apply Array.map_congr_left
  intro i hi
  exact h i (by simpa using hi)
theorem arr_set {n : Nat} {f : Nat → Value} {i : Nat} (v : Value) : (arr n f).setIfInBounds i v = arr n fun j => if j = i then v else f j := by
  apply Array.ext
  · simp [arr]
  · intro j h1 h2
    simp [arr] at h1
    rw [Array.getElem_setIfInBounds (by simpa [arr] using h1)]
    simp [arr, eq_comm]
theorem mkZ_const {z : Array Value} {n : Nat} {v : Value} (hz : 0 < z.size) (h : ∀ i, i < z.size → z[i]? = some v) : mkZ z n = arr n fun _ => v := by
  unfold mkZ arr
  apply Array.map_congr_left
  intro i hi
  have := h (i % z.size) (Nat.mod_lt _ hz)
  rw [getElem!_def, this]
theorem mkZ_one (v : Value) (n : Nat) : mkZ #[v] n = arr n fun _ => v := mkZ_const (by simp) (by intro i hi; simp at hi; subst hi; rfl)

section blocks
variable {h : Heap} {b : Nat} {cs : Array Value} {t : TypeId}

theorem B.lt (hb : B h b cs t) : b < h.size := by
  unfold B at hb
  rcases Nat.lt_or_ge b h.size with h' | h'
  · exact h'
  · simp [Array.getElem?_eq_none h'] at hb
theorem B.cell (hb : B h b cs t) (i : Nat) : cellH h ⟨b, i, none⟩ = cs[i]? := by simp only [cellH, show h[b]? = _ from hb]; rfl
theorem B.ok (hb : B h b cs t) {i : Nat} (hi : i < cs.size) : okPut h ⟨b, i, none⟩ = true := by
  simp only [okPut, hb.cell, Array.getElem?_eq_getElem hi, Option.isSome_some, Bool.true_and, frozenH, show h[b]? = _ from hb]
  simp
theorem B.put (hb : B h b cs t) (i : Nat) (v : Value) : B (putH h ⟨b, i, none⟩ v) b (cs.setIfInBounds i v) t := by
  unfold B putH at *
  simp only [Array.getElem?_modify, if_true, hb, Option.map_some]
  rfl
theorem get_put_ne {b' i : Nat} {v : Value} (hne : b ≠ b') : (putH h ⟨b', i, none⟩ v)[b]? = h[b]? := by
  unfold putH
  rw [Array.getElem?_modify, if_neg (Ne.symm hne)]
theorem B.put_ne (hb : B h b cs t) {b' i : Nat} {v : Value} (hne : b ≠ b') : B (putH h ⟨b', i, none⟩ v) b cs t := by
  unfold B at *
  rw [get_put_ne hne]; exact hb
theorem B.push (hb : B h b cs t) (o : Obj) : B (h.push o) b cs t := by
  have := hb.lt
  unfold B at *
  rw [Array.getElem?_push, if_neg (by omega)]; exact hb
theorem B.new (h : Heap) (cs : Array Value) (t : TypeId) : B (h.push (.cells cs t)) h.size cs t := by
  unfold B
  simp
theorem B.same {h' : Heap} (hb : B h b cs t) (he : h'[b]? = h[b]?) : B h' b cs t := by unfold B at *; rw [he]; exact hb
theorem B.cong {cs' : Array Value} (hb : B h b cs t) (e : cs = cs') : B h b cs' t := e ▸ hb
theorem size_put (a : Addr) (v : Value) : (putH h a v).size = h.size := by simp [putH]
theorem B.uniq {cs' : Array Value} {t' : TypeId} (hb : B h b cs t) (hb' : B h b cs' t') : cs = cs' ∧ t = t' := by
  unfold B at *
  rw [hb] at hb'
  simp at hb'
  exact hb'

theorem B.cellA {n : Nat} {f : Nat → Value} (hb : B h b (arr n f) t) {i : Nat} (hi : i < n) : cellH h ⟨b, i, none⟩ = some (f i) := by rw [hb.cell, arr_get hi]
theorem B.okA {n : Nat} {f : Nat → Value} (hb : B h b (arr n f) t) {i : Nat} (hi : i < n) : okPut h ⟨b, i, none⟩ = true := hb.ok (by rw [arr_size]; exact hi)
theorem B.putA {n : Nat} {f : Nat → Value} (hb : B h b (arr n f) t) (i : Nat) (v : Value) : B (putH h ⟨b, i, none⟩ v) b (arr n fun j => if j = i then v else f j) t := by
  rw [← arr_set]; exact hb.put i v
end blocks

theorem Ext.refl (S : Nat → Prop) (h : Heap) : Ext S h h := ⟨Nat.le_refl _, fun _ _ _ => rfl⟩
theorem Ext.trans {S : Nat → Prop} {a b c : Heap} (h1 : Ext S a b) (h2 : Ext S b c) : Ext S a c :=
  ⟨Nat.le_trans h1.1 h2.1, fun k hk hs => (h2.2 k (Nat.lt_of_lt_of_le hk h1.1) hs).trans (h1.2 k hk hs)⟩
theorem Ext.mono {S S' : Nat → Prop} {a b : Heap} (h : Ext S a b) (hs : ∀ k, S k → S' k) : Ext S' a b := ⟨h.1, fun k hk hn => h.2 k hk fun hS => hn (hs k hS)⟩
theorem Ext.put (S : Nat → Prop) (h : Heap) {b i : Nat} {v : Value} (hb : S b) : Ext S h (putH h ⟨b, i, none⟩ v) :=
  ⟨by rw [size_put]; exact Nat.le_refl _, fun k hk hs => get_put_ne fun e => hs (e ▸ hb)⟩
theorem Ext.push (S : Nat → Prop) (h : Heap) (o : Obj) : Ext S h (h.push o) :=
  ⟨by simp, fun k hk hs => by rw [Array.getElem?_push, if_neg (by omega)]⟩
/-- what is written into blocks that are new since h0 -/
theorem Ext.putn {S : Nat → Prop} {h0 h : Heap} (he : Ext S h0 h) {b i : Nat} {v : Value} (hb : h0.size ≤ b) : Ext S h0 (putH h ⟨b, i, none⟩ v) :=
  ⟨by rw [size_put]; exact he.1, fun k hk hs => by rw [get_put_ne (by omega)]; exact he.2 k hk hs⟩
theorem Ext.pushn {S : Nat → Prop} {h0 h : Heap} (he : Ext S h0 h) (o : Obj) : Ext S h0 (h.push o) := he.trans (Ext.push S h o)
theorem Ext.step {S T : Nat → Prop} {h0 h h' : Heap} (he : Ext S h0 h) (h2 : Ext T h h') (hT : ∀ b, b < h0.size → T b → S b) : Ext S h0 h' :=
  ⟨Nat.le_trans he.1 h2.1, fun k hk hs => (h2.2 k (Nat.lt_of_lt_of_le hk he.1) fun t => hs (hT k hk t)).trans (he.2 k hk hs)⟩
theorem Ext.puts {S : Nat → Prop} {b : Nat} (hb : S b) : ∀ (vs : List Value) (o : Nat) (h : Heap), Ext S h (putsH h b o vs)
  | [], o, h => Ext.refl _ _
  | v :: vs, o, h => (Ext.put S h hb).trans (Ext.puts hb vs (o + 1) _)
theorem size_puts {b : Nat} : ∀ (vs : List Value) (o : Nat) (h : Heap), (putsH h b o vs).size = h.size
  | [], o, h => rfl
  | v :: vs, o, h => by show (putsH _ b (o + 1) vs).size = _; rw [size_puts vs, size_put]
theorem B.ext {S : Nat → Prop} {h h' : Heap} {b : Nat} {cs : Array Value} {t : TypeId} (hb : B h b cs t) (he : Ext S h h') (hs : ¬ S b) : B h' b cs t := hb.same (he.2 b hb.lt hs)

/-- several cells stored one behind the other -/
theorem storeCs_blk {b o : Nat} {t : TypeId} : ∀ (vs : List Value) (i : Nat) (h : Heap) (cs : Array Value), B h b cs t → o + i + vs.length ≤ cs.size → (∀ v ∈ vs, v.oneCell' = true) →
    ∃ h' cs', storeCs h ⟨b, o, none⟩ i vs = some h' ∧ B h' b cs' t ∧ cs'.size = cs.size ∧ (∀ j, j < vs.length → cs'[o + i + j]? = vs[j]?) ∧ (∀ k, k < o + i ∨ o + i + vs.length ≤ k → cs'[k]? = cs[k]?) ∧ h'.size = h.size ∧ (∀ k, k ≠ b → h'[k]? = h[k]?)
  | [], i, h, cs, hb, hl, hv => ⟨h, cs, rfl, hb, rfl, by simp, fun _ _ => rfl, rfl, fun _ _ => rfl⟩
  | v :: vs, i, h, cs, hb, hl, hv => by
    have hi : o + i < cs.size := by simp at hl; omega
    have hb1 := hb.put (o + i) v
    obtain ⟨h', cs', e1, e2, e3, e4, e5, e6, e7⟩ := storeCs_blk (o := o) vs (i + 1) (putH h ⟨b, o + i, none⟩ v) (cs.setIfInBounds (o + i) v) hb1 (by simp at hl ⊢; omega) (fun u hu => hv u (by simp [hu]))
    refine ⟨h', cs', ?_, e2, by rw [e3]; simp, ?_, ?_, by rw [e6, size_put], ?_⟩
    · simp only [storeCs, add_mk, hv v (by simp), hb.ok hi, Bool.and_self, if_true]
      exact e1
    · intro j hj
      cases j with
      | zero =>
        rw [Nat.add_zero, e5 (o + i) (.inl (by omega))]
        simp [hi]
      | succ j =>
        rw [show o + i + (j + 1) = o + (i + 1) + j by omega, e4 j (by simpa using hj)]
        simp
    · intro k hk
      rw [e5 k (by simp at hk ⊢; omega)]
      rw [Array.getElem?_setIfInBounds_ne (by simp at hk; omega)]
    · intro k hk
      rw [e7 k hk, get_put_ne hk]

theorem cellsH_blk {h : Heap} {b o : Nat} {cs : Array Value} {t : TypeId} (hb : B h b cs t) : ∀ (n i : Nat), o + i + n ≤ cs.size → cellsH h ⟨b, o, none⟩ i n = some ((cs.toList.drop (o + i)).take n)
  | 0, i, hl => by simp [cellsH]
  | n + 1, i, hl => by
    have hi : o + i < cs.size := by omega
    simp only [cellsH, add_mk, hb.cell, Array.getElem?_eq_getElem hi]
    rw [cellsH_blk hb n (i + 1) (by omega)]
    have e : cs.toList.drop (o + i) = cs[o + i] :: cs.toList.drop (o + i + 1) := List.drop_eq_getElem_cons (by simpa using hi)
    rw [e]
    simp [Nat.add_assoc]

theorem mkZ_three (v : Value) (n : Nat) : mkZ #[v, v, v] n = arr n fun _ => v := mkZ_const (by simp) (by
  intro i hi
  simp at hi
  rcases (show i = 0 ∨ i = 1 ∨ i = 2 by omega) with h | h | h <;> subst h <;> rfl)
theorem arr_toList (n : Nat) (f : Nat → Value) : (arr n f).toList = (List.range n).map f := by simp [arr]

/-- cells of one row copied to the head of another -/
theorem copy_arr {h : Heap} {b b' n m k : Nat} {f g : Nat → Value} {t t' : TypeId} (hb : B h b (arr n f) t) (hb' : B h b' (arr m g) t') (hn : k ≤ n) (hm : k ≤ m) (hf : ∀ j, j < k → (f j).oneCell' = true) :
    ∃ cs h', cellsH h ⟨b, 0, none⟩ 0 k = some cs ∧ storeCs h ⟨b', 0, none⟩ 0 cs = some h' ∧ B h' b' (arr m fun j => if j < k then f j else g j) t' ∧ Ext (fun x => x = b') h h' ∧ h'.size = h.size := by
  have hc := cellsH_blk (o := 0) hb k 0 (by rw [arr_size]; omega)
  have e : ((arr n f).toList.drop (0 + 0)).take k = (List.range k).map f := by
    rw [arr_toList]
    simp only [Nat.add_zero, List.drop_zero]
    rw [← List.map_take, List.take_range, Nat.min_eq_left hn]
  rw [e] at hc
  obtain ⟨h', cs', e1, e2, e3, e4, e5, e6, e7⟩ := storeCs_blk (o := 0) ((List.range k).map f) 0 h (arr m g) hb' (by simp [arr_size]; omega) (by
    intro v hv
    obtain ⟨j, hj, rfl⟩ := List.mem_map.1 hv
    exact hf j (List.mem_range.1 hj))
  refine ⟨_, h', hc, e1, ?_, ⟨by omega, fun x hx hne => e7 x hne⟩, e6⟩
  have : cs' = arr m fun j => if j < k then f j else g j := by
    apply Array.ext_getElem?
    intro j
    by_cases hj : j < m
    · rw [arr_get hj]
      by_cases hjk : j < k
      · have := e4 j (by simpa using hjk)
        simp only [Nat.zero_add] at this
        rw [this, if_pos hjk]
        simp [hjk]
      · rw [if_neg hjk, e5 j (.inr (by simp; omega)), arr_get hj]
    · rw [Array.getElem?_eq_none (by rw [e3, arr_size]; omega), Array.getElem?_eq_none (by rw [arr_size]; omega)]
  rw [← this]; exact e2

theorem S_copy {P : Program} {ops os : List Oper} {K : Ko} {l : Fr} {h : Heap} {d : Nat} {ty : TypeId} {pos : String} {aft : Array Edge} {args : Array Operand} {dT xT : TypeId} {b b' n m dLen dCap sLen sCap size k : Nat} {f g : Nat → Value} {t t' : TypeId}
    (hz : elS P dT = some size) (ha : evs (E l) args.toList = some [.slice (some ⟨b', 0, none⟩) dLen dCap, .slice (some ⟨b, 0, none⟩) sLen sCap]) (hk : min sLen dLen = k) (hb : B h b (arr n f) t) (hb' : B h b' (arr m g) t') (hn : k * size ≤ n) (hm : k * size ≤ m) (hf : ∀ j, j < k * size → (f j).oneCell' = true)
    (hc : ∀ h', B h' b' (arr m fun j => if j < k * size then f j else g j) t' → Ext (fun x => x = b') h h' → h'.size = h.size → S P ops K os ((d, .int .i64 (k : Nat)) :: l) h') : S P ops K (⟨some d, .call ⟨.builtin .copy, args, #[dT, xT]⟩, ty, pos, aft, none⟩ :: os) l h := by
  obtain ⟨cs, h', e1, e2, e3, e4, e5⟩ := copy_arr hb hb' hn hm hf
  refine S_cp ha ⟨size, some ⟨b', 0, none⟩, dLen, dCap, sLen, cs, h', hz, rfl, rfl, ?_, e2, ?_⟩
  · rw [hk]; exact e1
  · rw [hk]; exact hc h' e3 e4 e5

/-- append within the capacity -/
theorem S_appi {P : Program} {ops os : List Oper} {K : Ko} {l : Fr} {h : Heap} {d : Nat} {ty : TypeId} {pos : String} {aft : Array Edge} {args : Array Operand} {sT xT e : TypeId} {b xb k cap n c size bytes : Nat} {z : Array Value} {vs : List Value}
    (hz : elI P sT = some (e, size, bytes, z)) (hni : ∀ k, P.underlying xT ≠ some (.int k)) (hus : (P.underlying xT).isSome = true) (ha : evs (E l) args.toList = some [.slice (some ⟨b, 0, none⟩) k cap, .slice (some ⟨xb, 0, none⟩) n c])
    (hsrc : cellsH h ⟨xb, 0, none⟩ 0 (n * size) = some vs) (hle : k + n ≤ cap) (hv : vs.all (·.oneCell') = true) (hok : ∀ j, j < vs.length → okPut h ⟨b, k * size + j, none⟩ = true)
    (hk : S P ops K os ((d, .slice (some ⟨b, 0, none⟩) (k + n) cap) :: l) (putsH h b (k * size) vs)) : S P ops K (⟨some d, .call ⟨.builtin .append, args, #[sT, xT]⟩, ty, pos, aft, none⟩ :: os) l h := by
  refine S_app ha ⟨e, size, bytes, z, some ⟨b, 0, none⟩, k, cap, n, vs, hz, rfl, rfl, hni, hus, hsrc, .inl ⟨hle, _, ?_, hk⟩⟩
  have := storeCs_puts (b := b) (o := k * size) vs 0 h (by simpa using hok) (by simpa using hv)
  simp only [add_mk, Nat.zero_add]
  simpa using this
/-- append that makes a new row: whatever capacity the tape gives -/
theorem S_appg {P : Program} {ops os : List Oper} {K : Ko} {l : Fr} {h : Heap} {d : Nat} {ty : TypeId} {pos : String} {aft : Array Edge} {args : Array Operand} {sT xT e : TypeId} {base : Option Addr} {xb k cap n c size bytes : Nat} {z : Array Value} {old vs : List Value}
    (hz : elI P sT = some (e, size, bytes, z)) (hni : ∀ k, P.underlying xT ≠ some (.int k)) (hus : (P.underlying xT).isSome = true) (ha : evs (E l) args.toList = some [.slice base k cap, .slice (some ⟨xb, 0, none⟩) n c])
    (hsrc : cellsH h ⟨xb, 0, none⟩ 0 (n * size) = some vs) (hlt : cap < k + n) (h63 : k + n < 9223372036854775808) (h48 : Builtin.nextslicecap (k + n) cap * bytes ≤ 281474976710656) (hold : srcV h size k (.slice base k cap) = some old)
    (hk : ∀ cap', k + n ≤ cap' → cap' < 9223372036854775808 → S P ops K os ((d, .slice (some ⟨h.size, 0, none⟩) (k + n) cap') :: l) (h.push (.cells ((old ++ vs).toArray ++ mkZ z ((cap' - (k + n)) * z.size)) e))) : S P ops K (⟨some d, .call ⟨.builtin .append, args, #[sT, xT]⟩, ty, pos, aft, none⟩ :: os) l h :=
  S_app ha ⟨e, size, bytes, z, base, k, cap, n, vs, hz, rfl, rfl, hni, hus, hsrc, .inr ⟨hlt, h63, h48, old, hold, hk⟩⟩
theorem nextcap_le2 (n c : Nat) (h1 : c < n) : Builtin.nextslicecap n c ≤ 4 * n + 4000 := by
  have hg : ∀ r c, Builtin.growBy n r c ≤ max c (n + n / 4 + 1000) := by
    intro r
    induction r with
    | zero => intro c; simp only [Builtin.growBy]; omega
    | succ r ih =>
      intro c
      simp only [Builtin.growBy]
      split
      · omega
      · have := ih (c + (c + 768) / 4); omega
  unfold Builtin.nextslicecap
  split
  · omega
  · split
    · omega
    · have := hg 4 c; omega
/-- what a row of cells begins with -/
theorem cellsH_new (h : Heap) (cs : Array Value) (t : TypeId) : cellsH (h.push (.cells cs t)) ⟨h.size, 0, none⟩ 0 cs.size = some cs.toList := by
  have := cellsH_blk (o := 0) (B.new h cs t) cs.size 0 (by omega)
  rw [List.take_of_length_le (by simp)] at this
  simpa using this

/-! ### a row that grows -/
def blkA : Option Addr → Option Nat
  | some a => some a.block
  | none => none
/-- the slice (a, k, cap) is nil, or lies at the head of a block from lo on; its k elements are the cells xs -/
def OwnR (lo : Nat) (h : Heap) (a : Option Addr) (k cap : Nat) (xs : List Value) (e : TypeId) (size : Nat) : Prop :=
  (a = none ∧ cap = 0 ∧ k = 0 ∧ xs = []) ∨ ∃ b cs, a = some ⟨b, 0, none⟩ ∧ lo ≤ b ∧ B h b cs e ∧ cs.size = cap * size ∧ k ≤ cap ∧ xs.length = k * size ∧ ∀ j, j < xs.length → cs[j]? = xs[j]?
theorem OwnR.nil (lo : Nat) (h : Heap) (e : TypeId) (size : Nat) : OwnR lo h none 0 0 [] e size := .inl ⟨rfl, rfl, rfl, rfl⟩
theorem OwnR.len {lo : Nat} {h : Heap} {a : Option Addr} {k cap : Nat} {xs : List Value} {e : TypeId} {size : Nat} (ho : OwnR lo h a k cap xs e size) : xs.length = k * size ∧ k ≤ cap := by
  rcases ho with ⟨_, rfl, rfl, rfl⟩ | ⟨b, cs, _, _, _, _, h1, h2, _⟩
  · simp
  · exact ⟨h2, h1⟩
theorem OwnR.some {lo : Nat} {h : Heap} {a : Option Addr} {k cap : Nat} {xs : List Value} {e : TypeId} {size : Nat} (ho : OwnR lo h a k cap xs e size) (hk : 0 < k) :
    ∃ b, a = Option.some ⟨b, 0, none⟩ ∧ lo ≤ b ∧ b < h.size ∧ (∀ j, j < xs.length → cellH h ⟨b, j, none⟩ = xs[j]?) ∧ ∀ j, j < cap * size → okPut h ⟨b, j, none⟩ = true := by
  rcases ho with ⟨_, _, h3, _⟩ | ⟨b, cs, h1, h2, h3, h4, h5, h6, h7⟩
  · omega
  · exact ⟨b, h1, h2, h3.lt, fun j hj => by rw [h3.cell, h7 j hj], fun j hj => h3.ok (by omega)⟩
theorem OwnR.blk2 {lo : Nat} {h : Heap} {a : Option Addr} {k cap : Nat} {xs : List Value} {e : TypeId} {size b : Nat} (ho : OwnR lo h a k cap xs e size) (hb : blkA a = Option.some b) : lo ≤ b ∧ b < h.size := by
  rcases ho with ⟨rfl, _⟩ | ⟨b2, cs, rfl, h2, h3, _⟩
  · simp [blkA] at hb
  · simp [blkA] at hb; subst hb; exact ⟨h2, h3.lt⟩
/-- elsewhere something turned -/
theorem OwnR.ext {lo : Nat} {h h' : Heap} {a : Option Addr} {k cap : Nat} {xs : List Value} {e : TypeId} {size : Nat} {S : Nat → Prop} (ho : OwnR lo h a k cap xs e size) (he : Ext S h h') (hS : ∀ b, a = Option.some ⟨b, 0, none⟩ → ¬ S b) : OwnR lo h' a k cap xs e size := by
  rcases ho with h1 | ⟨b, cs, h1, h2, h3, h4⟩
  · exact .inl h1
  · exact .inr ⟨b, cs, h1, h2, h3.ext he (hS b h1), h4⟩
theorem OwnR.cells {lo : Nat} {h : Heap} {a : Option Addr} {k cap : Nat} {xs : List Value} {e : TypeId} {size : Nat} (ho : OwnR lo h a k cap xs e size) : srcV h size k (.slice a k cap) = Option.some xs := by
  rcases ho with ⟨rfl, _, _, rfl⟩ | ⟨b, cs, rfl, h2, h3, h4, h5, h6, h7⟩
  · rfl
  · simp only [srcV]
    have hle : k * size ≤ cs.size := by rw [h4]; exact Nat.mul_le_mul_right _ h5
    rw [cellsH_blk (o := 0) h3 (k * size) 0 (by omega)]
    congr 1
    apply List.ext_getElem?
    intro j
    simp only [Nat.add_zero, List.drop_zero, List.getElem?_take]
    by_cases hj : j < k * size
    · rw [if_pos hj, ← h7 j (by omega)]; simp
    · rw [if_neg hj, List.getElem?_eq_none (by omega)]

theorem mkZ_size (z : Array Value) (n : Nat) : (mkZ z n).size = n := by simp [mkZ]
theorem putsH_eq {b : Nat} {t : TypeId} : ∀ (vs : List Value) (o : Nat) (h : Heap) (cs : Array Value), B h b cs t → o + vs.length ≤ cs.size →
    ∃ cs', B (putsH h b o vs) b cs' t ∧ cs'.size = cs.size ∧ (∀ j, j < vs.length → cs'[o + j]? = vs[j]?) ∧ (∀ k, k < o ∨ o + vs.length ≤ k → cs'[k]? = cs[k]?) ∧ (putsH h b o vs).size = h.size ∧ ∀ k, k ≠ b → (putsH h b o vs)[k]? = h[k]?
  | [], o, h, cs, hb, hl => ⟨cs, hb, rfl, by simp, fun _ _ => rfl, rfl, fun _ _ => rfl⟩
  | v :: vs, o, h, cs, hb, hl => by
    have hi : o < cs.size := by simp at hl; omega
    obtain ⟨cs', e2, e3, e4, e5, e6, e7⟩ := putsH_eq vs (o + 1) (putH h ⟨b, o, none⟩ v) (cs.setIfInBounds o v) (hb.put o v) (by simp at hl ⊢; omega)
    refine ⟨cs', e2, by rw [e3]; simp, ?_, ?_, by show (putsH (putH h ⟨b, o, none⟩ v) b (o + 1) vs).size = _; rw [e6, size_put], ?_⟩
    · intro j hj
      cases j with
      | zero => rw [Nat.add_zero, e5 o (.inl (by omega))]; simp [hi]
      | succ j => rw [show o + (j + 1) = o + 1 + j by omega, e4 j (by simpa using hj)]; simp
    · intro k hk
      rw [e5 k (by simp at hk ⊢; omega), Array.getElem?_setIfInBounds_ne (by simp at hk; omega)]
    · intro k hk
      show (putsH (putH h ⟨b, o, none⟩ v) b (o + 1) vs)[k]? = _
      rw [e7 k hk, get_put_ne hk]

theorem S_appo {P : Program} {ops os : List Oper} {K : Ko} {l : Fr} {h : Heap} {d : Nat} {ty : TypeId} {pos : String} {aft : Array Edge} {args : Array Operand} {sT xT e : TypeId} {lo k cap n c size bytes xb : Nat} {a : Option Addr} {z : Array Value} {xs vs : List Value}
    (hz : elI P sT = some (e, size, bytes, z)) (hni : ∀ k, P.underlying xT ≠ some (.int k)) (hus : (P.underlying xT).isSome = true) (ha : evs (E l) args.toList = some [.slice a k cap, .slice (some ⟨xb, 0, none⟩) n c])
    (hzs : z.size = size) (ho : OwnR lo h a k cap xs e size) (hlo : lo ≤ h.size) (hsrc : cellsH h ⟨xb, 0, none⟩ 0 (n * size) = some vs) (hvl : vs.length = n * size) (hb : (k + n) * bytes ≤ 1099511627776) (hb2 : bytes ≤ 4096) (hb3 : 1 ≤ bytes) (hv : vs.all (·.oneCell') = true)
    (hk : ∀ a' cap' h', OwnR lo h' a' (k + n) cap' (xs ++ vs) e size → Ext (fun b => blkA a = some b) h h' → (blkA a' = blkA a ∨ blkA a' = some h.size) → S P ops K os ((d, .slice a' (k + n) cap') :: l) h') : S P ops K (⟨some d, .call ⟨.builtin .append, args, #[sT, xT]⟩, ty, pos, aft, none⟩ :: os) l h := by
  have hlen := ho.len
  by_cases hle : k + n ≤ cap
  · rcases ho with ⟨rfl, rfl, rfl, rfl⟩ | ⟨b, cs, rfl, h2, h3, h4, h5, h6, h7⟩
    · have hn0 : n = 0 := by omega
      subst hn0
      have : vs = [] := List.eq_nil_of_length_eq_zero (by simpa using hvl)
      subst this
      refine S_app ha ⟨e, size, bytes, z, none, 0, 0, 0, [], hz, rfl, rfl, hni, hus, hsrc, .inl ⟨by omega, h, rfl, ?_⟩⟩
      exact hk none 0 h (.inl ⟨rfl, rfl, rfl, rfl⟩) (Ext.refl _ _) (.inl rfl)
    · have hfit : k * size + vs.length ≤ cs.size := by
        rw [h4, hvl, ← Nat.add_mul]; exact Nat.mul_le_mul_right _ hle
      refine S_appi hz hni hus ha hsrc hle hv (fun j hj => h3.ok (by omega)) ?_
      obtain ⟨cs', e2, e3, e4, e5, e6, e7⟩ := putsH_eq vs (k * size) h cs h3 hfit
      refine hk _ cap _ (.inr ⟨b, cs', rfl, h2, e2, by rw [e3]; exact h4, hle, by rw [List.length_append, h6, hvl, Nat.add_mul], fun j hj => ?_⟩) ⟨by omega, fun x hx hne => e7 x fun e => hne (by rw [e]; rfl)⟩ (.inl rfl)
      by_cases hjx : j < xs.length
      · rw [e5 j (.inl (by omega)), h7 j hjx, List.getElem?_append_left hjx]
      · rw [List.getElem?_append_right (by omega)]
        have := e4 (j - xs.length) (by rw [List.length_append] at hj; omega)
        rw [← this]; congr 1; omega
  · have hkb : k + n ≤ 1099511627776 := Nat.le_trans (Nat.le_mul_of_pos_right _ hb3) hb
    have hnc := nextcap_le2 (k + n) cap (by omega)
    refine S_appg hz hni hus ha hsrc (by omega) (by omega) ?_ ho.cells (fun cap' c1 c2 => ?_)
    · calc Builtin.nextslicecap (k + n) cap * bytes ≤ (4 * (k + n) + 4000) * bytes := Nat.mul_le_mul_right _ (by omega)
        _ = 4 * ((k + n) * bytes) + 4000 * bytes := by rw [Nat.add_mul, Nat.mul_assoc]
        _ ≤ 281474976710656 := by omega
    · refine hk _ cap' _ (.inr ⟨h.size, _, rfl, hlo, B.new _ _ _, ?_, c1, by rw [List.length_append, hlen.1, hvl, Nat.add_mul], fun j hj => ?_⟩) (Ext.push _ _ _) (.inr rfl)
      · rw [Array.size_append, mkZ_size, hzs]
        simp only [List.size_toArray, List.length_append, hlen.1, hvl]
        rw [← Nat.add_mul, ← Nat.add_mul]
        congr 1
        omega
      · rw [Array.getElem?_append_left (by simpa using hj)]
        simp

/-- copy out of a row that is known as a list -/
theorem S_copyx {P : Program} {ops os : List Oper} {K : Ko} {l : Fr} {h : Heap} {d : Nat} {ty : TypeId} {pos : String} {aft : Array Edge} {args : Array Operand} {dT xT : TypeId} {b' m dLen dCap sLen sCap size k : Nat} {a : Option Addr} {g : Nat → Value} {xs : List Value} {t' : TypeId}
    (hz : elS P dT = some size) (ha : evs (E l) args.toList = some [.slice (some ⟨b', 0, none⟩) dLen dCap, .slice a sLen sCap]) (hk : min sLen dLen = k) (hsrc : srcV h size k (.slice a sLen sCap) = some xs) (hb' : B h b' (arr m g) t') (hm : xs.length ≤ m) (hv : ∀ v ∈ xs, v.oneCell' = true)
    (hc : ∀ h', B h' b' (arr m fun j => if j < xs.length then xs.getD j undef else g j) t' → Ext (fun x => x = b') h h' → h'.size = h.size → S P ops K os ((d, .int .i64 (k : Nat)) :: l) h') : S P ops K (⟨some d, .call ⟨.builtin .copy, args, #[dT, xT]⟩, ty, pos, aft, none⟩ :: os) l h := by
  obtain ⟨h', cs', e1, e2, e3, e4, e5, e6, e7⟩ := storeCs_blk (o := 0) xs 0 h (arr m g) hb' (by rw [arr_size]; omega) hv
  refine S_cp ha ⟨size, some ⟨b', 0, none⟩, dLen, dCap, sLen, xs, h', hz, rfl, rfl, ?_, e1, ?_⟩
  · rw [hk]; exact hsrc
  · rw [hk]
    refine hc h' ?_ ⟨by omega, fun x hx hne => e7 x hne⟩ e6
    have : cs' = arr m fun j => if j < xs.length then xs.getD j undef else g j := by
      apply Array.ext_getElem?
      intro j
      by_cases hj : j < m
      · rw [arr_get hj]
        by_cases hjk : j < xs.length
        · have := e4 j hjk
          simp only [Nat.zero_add] at this
          rw [this, if_pos hjk]
          simp [hjk]
        · rw [if_neg hjk, e5 j (.inr (by omega)), arr_get hj]
      · rw [Array.getElem?_eq_none (by rw [e3, arr_size]; omega), Array.getElem?_eq_none (by rw [arr_size]; omega)]
    rw [← this]; exact e2

/-- bytes to a string -/
def u8s (l : List Int) : List Value := l.map (Value.int .u8)
theorem bytesV_u8s : ∀ l : List Int, bytesV (u8s l) = some l
  | [] => rfl
  | n :: l => by simp only [u8s, List.map_cons, bytesV]; rw [show List.map (Value.int .u8) l = u8s l from rfl, bytesV_u8s l]; rfl
theorem S_str {P : Program} {ops os : List Oper} {K : Ko} {l : Fr} {h : Heap} {d : Nat} {ty : TypeId} {pos : String} {aft : Array Edge} {s t : TypeId} {x : Operand} {a : Option Addr} {n c : Nat} {bs : List Int}
    (hs : kd P s = 1) (ht : kd P t = 0) (hi : inK P t = none) (hx : ev (E l) x = some (.slice a n c)) (hsrc : srcV h 1 n (.slice a n c) = some (u8s bs)) (hk : S P ops K os ((d, .string (mkS bs)) :: l) h) : S P ops K (⟨some d, .convert s t x, ty, pos, aft, none⟩ :: os) l h := by
  refine S_q (.inr (by simp only [cls, hi])) ?_ hk
  simp only [qV, hx, convV, hi, hs, ht, and_self, if_true]
  cases a with
  | none =>
    simp only [srcV, Option.some.injEq] at hsrc
    have : bs = [] := by
      cases bs with
      | nil => rfl
      | cons n l => simp [u8s] at hsrc
    subst this
    rfl
  | some a =>
    simp only [srcV, Nat.mul_one] at hsrc
    simp only [hsrc, Option.bind_some, bytesV_u8s, Option.map_some]

theorem srcV_u8 {h : Heap} {b n c : Nat} {g : Nat → Int} {t : TypeId} (hb : B h b (arr n fun j => .int .u8 (g j)) t) : srcV h 1 n (.slice (some ⟨b, 0, none⟩) n c) = some (u8s ((List.range n).map g)) := by
  simp only [srcV, Nat.mul_one]
  rw [cellsH_blk (o := 0) hb n 0 (by rw [arr_size]; omega)]
  congr 1
  rw [arr_toList]
  simp only [Nat.add_zero, List.drop_zero]
  rw [List.take_of_length_le (by simp)]
  simp [u8s]
theorem mkS_size (l : List Int) : (mkS l).size = l.length := by
  show (mkS l).data.size = _
  simp [mkS]

end Go.Eng
