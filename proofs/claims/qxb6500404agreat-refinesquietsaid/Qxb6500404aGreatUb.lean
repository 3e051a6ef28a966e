import Derived.Test.Qxb6500404aGreatUa
import Derived.Test.Qxb6500404aGreatTc
import Derived.Test.Qxb6500404aGreatEp
import Derived.Test.Qxb6500404aGreatOd
set_option linter.unusedVariables false
set_option linter.unusedSimpArgs false
namespace Go.Proofs.Qxb6500404aGreat
open Go.Eng Go.Bits Go.Blk HufW Go.Arc

open Go.Lz (byt)
def acs (A K D n : Nat) : Array Value := #[.pointer (some ⟨K, 0, none⟩), .pointer (some ⟨D, 0, none⟩), .slice (some ⟨A + 1, 0, none⟩) 1200 1200, .int .i64 (n : Int), .slice (some ⟨A + 2, 0, none⟩) 4 4, .slice (some ⟨A + 3, 0, none⟩) 4 4, .slice (some ⟨A + 4, 0, none⟩) 256 256]
structure A0 (h : Heap) (A K D n : Nat) (g : Nat → Int) (fo ft : Nat → Nat) (gn : Nat → Int) : Prop where
  f : B h A (acs A K D n) 59
  p : B h (A + 1) (arr 1200 fun j => .int .u8 (g j)) 5
  o : B h (A + 2) (ia 4 fo) 3
  b : B h (A + 3) (ia 20 ft) 128
  g : B h (A + 4) (arr 256 fun j => .int .u8 (gn j)) 5
def AT (A z : Nat) : Prop := A ≤ z ∧ z ≤ A + 4
theorem at_def (A z : Nat) : AT A z = (A ≤ z ∧ z ≤ A + 4) := rfl
section a0
variable {h h' : Heap} {A K D n : Nat} {g : Nat → Int} {fo ft : Nat → Nat} {gn : Nat → Int}
theorem A0.ext {S : Nat → Prop} (a : A0 h A K D n g fo ft gn) (he : Ext S h h') (hs : ∀ z, AT A z → ¬ S z) : A0 h' A K D n g fo ft gn :=
  ⟨a.f.ext he (hs _ ⟨by omega, by omega⟩), a.p.ext he (hs _ ⟨by omega, by omega⟩), a.o.ext he (hs _ ⟨by omega, by omega⟩), a.b.ext he (hs _ ⟨by omega, by omega⟩), a.g.ext he (hs _ ⟨by omega, by omega⟩)⟩
theorem A0.new (a : A0 h A K D n g fo ft gn) (he : Ext (fun _ => False) h h') : A0 h' A K D n g fo ft gn := a.ext he (fun _ _ f => f)
theorem A0.lt (a : A0 h A K D n g fo ft gn) : A + 4 < h.size := a.g.lt
theorem A0.pf (a : A0 h A K D n g fo ft gn) (m : Nat) : A0 (putH h ⟨A, 3, none⟩ (.int .i64 (m : Int))) A K D m g fo ft gn :=
  ⟨(a.f.put 3 _).cong (by simp [acs]), a.p.put_ne (by omega), a.o.put_ne (by omega), a.b.put_ne (by omega), a.g.put_ne (by omega)⟩
theorem A0.pp (a : A0 h A K D n g fo ft gn) (i : Nat) (x : Int) : A0 (putH h ⟨A + 1, i, none⟩ (.int .u8 x)) A K D n (Huf.ups g i x) fo ft gn :=
  ⟨a.f.put_ne (by omega), u8_put a.p i x, a.o.put_ne (by omega), a.b.put_ne (by omega), a.g.put_ne (by omega)⟩
theorem A0.po (a : A0 h A K D n g fo ft gn) (i x : Nat) : A0 (putH h ⟨A + 2, i, none⟩ (.int .i64 (x : Int))) A K D n g (Huf.ups fo i x) ft gn :=
  ⟨a.f.put_ne (by omega), a.p.put_ne (by omega), ia_put a.o i x, a.b.put_ne (by omega), a.g.put_ne (by omega)⟩
theorem A0.pg (a : A0 h A K D n g fo ft gn) (i : Nat) (x : Int) : A0 (putH h ⟨A + 4, i, none⟩ (.int .u8 x)) A K D n g fo ft (Huf.ups gn i x) :=
  ⟨a.f.put_ne (by omega), a.p.put_ne (by omega), a.o.put_ne (by omega), a.b.put_ne (by omega), u8_put a.g i x⟩
theorem A0.pagex (a : A0 h A K D n g fo ft gn) {g' : Nat → Int} (hp : B h' (A + 1) (arr 1200 fun j => .int .u8 (g' j)) 5) (he : Ext (fun z => z = A + 1) h h') : A0 h' A K D n g' fo ft gn :=
  ⟨a.f.ext he (by omega), hp, a.o.ext he (by omega), a.b.ext he (by omega), a.g.ext he (by omega)⟩
theorem A0.tabx (a : A0 h A K D n g fo ft gn) {ft' : Nat → Nat} (hp : B h' (A + 3) (ia 20 ft') 128) (he : Ext (fun z => z = A + 3) h h') : A0 h' A K D n g fo ft' gn :=
  ⟨a.f.ext he (by omega), a.p.ext he (by omega), a.o.ext he (by omega), hp, a.g.ext he (by omega)⟩
theorem aq (a : A0 h A K D n g fo ft gn) : cellH h ⟨A, 0, none⟩ = some (.pointer (some ⟨K, 0, none⟩)) ∧ cellH h ⟨A, 1, none⟩ = some (.pointer (some ⟨D, 0, none⟩)) ∧ cellH h ⟨A, 2, none⟩ = some (.slice (some ⟨A + 1, 0, none⟩) 1200 1200) ∧ cellH h ⟨A, 3, none⟩ = some (.int .i64 (n : Int)) ∧ cellH h ⟨A, 4, none⟩ = some (.slice (some ⟨A + 2, 0, none⟩) 4 4) ∧ cellH h ⟨A, 5, none⟩ = some (.slice (some ⟨A + 3, 0, none⟩) 4 4) ∧ cellH h ⟨A, 6, none⟩ = some (.slice (some ⟨A + 4, 0, none⟩) 256 256) ∧ (∀ j, j < 4 → cellH h ⟨A + 2, j, none⟩ = some (.int .i64 (fo j : Int))) ∧ (∀ j, j < 20 → cellH h ⟨A + 3, j, none⟩ = some (.int .i64 (ft j : Int))) ∧ (∀ j, j < 7 → okPut h ⟨A, j, none⟩ = true) ∧ (∀ j, j < 1200 → okPut h ⟨A + 1, j, none⟩ = true) ∧ (∀ j, j < 4 → okPut h ⟨A + 2, j, none⟩ = true) ∧ (∀ j, j < 20 → okPut h ⟨A + 3, j, none⟩ = true) ∧ (∀ j, j < 256 → okPut h ⟨A + 4, j, none⟩ = true) :=
  ⟨a.f.cell 0, a.f.cell 1, a.f.cell 2, a.f.cell 3, a.f.cell 4, a.f.cell 5, a.f.cell 6, ia_at a.o, ia_at a.b, fun j hj => a.f.ok (by simpa [acs] using hj), fun j hj => B.okA a.p hj, ia_ok a.o, ia_ok a.b, fun j hj => B.okA a.g hj⟩
end a0
/-- the page holds t -/
def Pre (g : Nat → Int) (t : List Int) : Prop := ∀ j, j < t.length → g j = t.getD j 0
theorem Pre.snoc {g : Nat → Int} {t : List Int} (p : Pre g t) (x : Int) : Pre (Huf.ups g t.length x) (t ++ [x]) := fun j hj => by
  unfold Huf.ups
  by_cases e : j = t.length
  · subst e; rw [if_pos rfl, getD_last]
  · have : j < t.length := by rw [List.length_append] at hj; simp at hj; omega
    rw [if_neg e, getD_app this]; exact p j this
theorem Pre.app {g g' : Nat → Int} {t : List Int} (p : Pre g t) (l : List Int) (h1 : ∀ j, j < t.length → g' j = g j) (h2 : ∀ j, j < l.length → g' (t.length + j) = l.getD j 0) : Pre g' (t ++ l) := fun j hj => by
  rw [List.length_append] at hj
  by_cases e : j < t.length
  · rw [h1 j e, p j e, List.getD_eq_getElem?_getD, List.getD_eq_getElem?_getD, List.getElem?_append_left e]
  · have := h2 (j - t.length) (by omega)
    rw [show t.length + (j - t.length) = j by omega] at this
    rw [this, List.getD_eq_getElem?_getD, List.getD_eq_getElem?_getD, List.getElem?_append_right (by omega)]
theorem pre_list {g : Nat → Int} {t : List Int} (p : Pre g t) : (List.range t.length).map g = t := by
  apply List.ext_getElem?
  intro j
  by_cases hj : j < t.length
  · have := p j hj
    rw [List.getElem?_map, List.getElem?_range hj, Option.map_some, this, List.getD_eq_getElem?_getD, List.getElem?_eq_getElem hj]; rfl
  · rw [List.getElem?_eq_none (by simpa using hj), List.getElem?_eq_none (by omega)]
structure AX (h : Heap) (A K D : Nat) (t : List Int) (fo ft : Nat → Nat) (gn : Nat → Int) : Prop where
  le : t.length ≤ 1200
  x : ∃ g, A0 h A K D t.length g fo ft gn ∧ Pre g t
section ax
variable {h h' : Heap} {A K D : Nat} {t : List Int} {fo ft : Nat → Nat} {gn : Nat → Int}
theorem AX.ext {S : Nat → Prop} (a : AX h A K D t fo ft gn) (he : Ext S h h') (hs : ∀ z, AT A z → ¬ S z) : AX h' A K D t fo ft gn := by
  obtain ⟨g, a0, p⟩ := a.x
  exact ⟨a.le, g, a0.ext he hs, p⟩
theorem AX.new (a : AX h A K D t fo ft gn) (he : Ext (fun _ => False) h h') : AX h' A K D t fo ft gn := a.ext he (fun _ _ f => f)
theorem AX.lt (a : AX h A K D t fo ft gn) : A + 4 < h.size := by
  obtain ⟨g, a0, _⟩ := a.x
  exact a0.lt
end ax
theorem top_u8 {n : Nat} (h : n < 256) : n < top .u8 := h
theorem and255 (n : Nat) : n &&& 255 = n % 256 := Nat.and_two_pow_sub_one_eq_mod n 8
theorem S_copyo {P : Program} {ops os : List Oper} {K : Ko} {l : Fr} {h : Heap} {d : Nat} {ty : TypeId} {pos : String} {aft : Array Edge} {args : Array Operand} {dT xT : TypeId} {b' o m dLen dCap : Nat} {s : ByteArray} {g : Nat → Value} {t' : TypeId}
    (hz : elS P dT = some 1) (ha : evs (E l) args.toList = some [.slice (some ⟨b', o, none⟩) dLen dCap, .string s]) (hl : s.size ≤ dLen) (hb' : B h b' (arr m g) t') (hm : o + s.size ≤ m)
    (hc : ∀ h', B h' b' (arr m fun j => if o ≤ j ∧ j < o + s.size then .int .u8 (bAt s (j - o) : Int) else g j) t' → Ext (fun x => x = b') h h' → h'.size = h.size → S P ops K os ((d, .int .i64 (s.size : Nat)) :: l) h') : S P ops K (⟨some d, .call ⟨.builtin .copy, args, #[dT, xT]⟩, ty, pos, aft, none⟩ :: os) l h := by
  have hx : srcV h 1 (min s.size dLen) (.string s) = some ((List.range s.size).map fun j => Value.int .u8 (bAt s j : Int)) := by
    simp only [srcV, Nat.min_eq_left hl]
    congr 1
    apply List.ext_getElem?
    intro j
    simp only [List.getElem?_map]
    have e : (s.extract 0 s.size).data = s.data := by
      have := ByteArray.extract_zero_size (b := s)
      rw [this]
    rw [e]
    by_cases hj : j < s.size
    · have hd : j < s.data.size := hj
      rw [List.getElem?_range hj, Array.getElem?_toList, Array.getElem?_eq_getElem hd]
      simp [bAt, Array.getElem?_eq_getElem hd]
    · have hd : ¬ j < s.data.size := hj
      rw [show (List.range s.size)[j]? = none from List.getElem?_eq_none (by simpa using hj), Array.getElem?_toList, show s.data[j]? = none from Array.getElem?_eq_none (by omega)]; rfl
  obtain ⟨h', cs', e1, e2, e3, e4, e5, e6, e7⟩ := storeCs_blk (o := o) ((List.range s.size).map fun j => Value.int .u8 (bAt s j : Int)) 0 h (arr m g) hb' (by rw [arr_size]; simpa using hm) (by intro v hv; simp only [List.mem_map] at hv; obtain ⟨_, _, rfl⟩ := hv; rfl)
  refine S_cp ha ⟨1, some ⟨b', o, none⟩, dLen, dCap, s.size, _, h', hz, rfl, rfl, hx, e1, ?_⟩
  rw [Nat.min_eq_left hl]
  refine hc h' ?_ ⟨by omega, fun x hx hne => e7 x hne⟩ e6
  have : cs' = arr m fun j => if o ≤ j ∧ j < o + s.size then .int .u8 (bAt s (j - o) : Int) else g j := by
    apply Array.ext_getElem?
    intro j
    by_cases hj : j < m
    · rw [arr_get hj]
      by_cases hjk : o ≤ j ∧ j < o + s.size
      · have := e4 (j - o) (by simp; omega)
        rw [show o + 0 + (j - o) = j by omega] at this
        rw [this, if_pos hjk]
        simp [show j - o < s.size by omega]
      · rw [if_neg hjk, e5 j (by simp; omega), arr_get hj]
    · rw [Array.getElem?_eq_none (by rw [e3, arr_size]; omega), Array.getElem?_eq_none (by rw [arr_size]; omega)]
  rw [← this]; exact e2
/-! a list of entries, read -/
def EV (lo : Nat) (h : Heap) (a : Option Addr) (E : List En) : Prop := E = [] ∨ ∃ b, a = some ⟨b, 0, none⟩ ∧ lo ≤ b ∧ b < h.size ∧ ∀ i, i < E.length → cellH h ⟨b, i * 2, none⟩ = some (.string (ga E i).1) ∧ cellH h ⟨b, i * 2 + 1, none⟩ = some (.string (ga E i).2)
theorem EV.get {lo : Nat} {h : Heap} {a : Option Addr} {E : List En} (v : EV lo h a E) {i : Nat} (hi : i < E.length) : ∃ b, a = some ⟨b, 0, none⟩ ∧ lo ≤ b ∧ b < h.size ∧ ∀ i, i < E.length → cellH h ⟨b, i * 2, none⟩ = some (.string (ga E i).1) ∧ cellH h ⟨b, i * 2 + 1, none⟩ = some (.string (ga E i).2) := by
  rcases v with rfl | v
  · simp at hi
  · exact v
theorem cell_same {h h' : Heap} {b i : Nat} (he : h'[b]? = h[b]?) : cellH h' ⟨b, i, none⟩ = cellH h ⟨b, i, none⟩ := by unfold cellH; simp only [he]
theorem EV.ext {lo : Nat} {h h' : Heap} {a : Option Addr} {E : List En} {S : Nat → Prop} (v : EV lo h a E) (he : Ext S h h') (hs : ∀ z, lo ≤ z → ¬ S z) : EV lo h' a E := by
  rcases v with rfl | ⟨b, e, hb, hl, hc⟩
  · exact .inl rfl
  · refine .inr ⟨b, e, hb, by have := he.1; omega, fun i hi => ?_⟩
    have h9 := he.2 b hl (hs b hb)
    rw [cell_same h9, cell_same h9]; exact hc i hi
theorem EV.new {lo : Nat} {h h' : Heap} {a : Option Addr} {E : List En} (v : EV lo h a E) (he : Ext (fun _ => False) h h') : EV lo h' a E := v.ext he (fun _ _ f => f)
theorem EV.lo {lo lo' : Nat} {h : Heap} {a : Option Addr} {E : List En} (v : EV lo h a E) (hl : lo' ≤ lo) : EV lo' h a E := by
  rcases v with rfl | ⟨b, e, hb, q⟩
  · exact .inl rfl
  · exact .inr ⟨b, e, by omega, q⟩
theorem ckL_step {E : List En} {i : Nat} (h : i < E.length) : ckL (E.drop i) = if (ga E i).1.size = 0 ∨ 8 < (ga E i).1.size then 16 else if 256 < (ga E i).2.size then 1 else ckL (E.drop (i + 1)) := by rw [ga_drop h]; rfl
theorem ckL_end {E : List En} {i : Nat} (h : ¬ i < E.length) : ckL (E.drop i) = 0 := by rw [List.drop_of_length_le (by omega)]; rfl

theorem mkZ_5 (v : Value) (n : Nat) : mkZ #[v, v, v, v, v] n = arr n fun _ => v := mkZ_const (by simp) (by
  intro i hi
  simp at hi
  rcases i with _ | _ | _ | _ | _ | i
  · rfl
  · rfl
  · rfl
  · rfl
  · rfl
  · omega)
set_option maxHeartbeats 400000 in
theorem one_spec (h : Heap) (A K D : Nat) (t : List Int) (fo ft : Nat → Nat) (gn : Nat → Int) (ax : AX h A K D t fo ft gn) (v : Nat) (hv : v < 256) (hl : t.length < 1200) :
    FC Tryz.prog 52 (#[.pointer (some ⟨A, 0, none⟩), .int .i64 (v : Int)] : Array Value) h fun rv h' => rv = .tuple #[] ∧ AX h' A K D (t ++ [((v : Nat) : Int)]) fo ft gn ∧ Ext (AT A) h h' := by
  obtain ⟨g, x0, pr⟩ := ax.x
  obtain ⟨n, en⟩ : ∃ n, n = t.length := ⟨_, rfl⟩
  rw [← en] at x0
  have hAl := x0.lt
  try clear a0 a1 a2 a3 a4 a5 a6 ao ab aok pok ook tok gok
  obtain ⟨a0, a1, a2, a3, a4, a5, a6, ao, ab, aok, pok, ook, tok, gok⟩ := aq (x0)
  refine FC_of [(0, .pointer (some ⟨A, 0, none⟩)), (1, .int .i64 (v : Int))] Tryz.func52 rfl Tryz.ntmps52 (by simp) rfl (fun R hR => ?_)
  refine V_sr T.mix (by kernel_rfl) (fun K1 hK1 => ?_)
  refine S_mv rfl ?_
  refine S_nc rfl ?_
  first | refine S_fa0 T.f59_2 rfl ?_ | refine S_fa T.f59_2 rfl ?_
  refine S_ldK T.ag55 rfl (fun K' hK' => ?_)
  simp (disch := omega) only [a0, a1, a2, a3, a4, a5, a6, ao, ab, oP_some, Nat.add_zero]
  refine hK' _ ?_; clear hK' K'
  refine S_mv rfl ?_
  refine S_nc rfl ?_
  first | refine S_fa0 T.f59_3 rfl ?_ | refine S_fa T.f59_3 rfl ?_
  refine S_ldK T.ag3 rfl (fun K' hK' => ?_)
  simp (disch := omega) only [a0, a1, a2, a3, a4, a5, a6, ao, ab, oP_some, Nat.add_zero]
  refine hK' _ ?_; clear hK' K'
  refine S_mv rfl ?_
  refine S_cvN v T.us3 T.in5 rfl rfl (top_u8 hv) ?_
  refine S_ixN n T.el55 rfl rfl rfl (by omega) ?_
  refine S_st T.sz5 rfl rfl rfl rfl (by simp (disch := omega) only [aok, pok, ook, tok, gok]) ?_
  generalize hh : putH _ _ _ = h1
  have x1 : A0 h1 A K D n (Huf.ups g n (v : Int)) fo ft gn := by rw [← hh]; exact x0.pp n (v : Int)
  have hEh1 : Ext (AT A) h h1 := by rw [← hh]; exact Ext.put _ _ ⟨by omega, by omega⟩
  clear hh
  try clear a0 a1 a2 a3 a4 a5 a6 ao ab aok pok ook tok gok
  obtain ⟨a0, a1, a2, a3, a4, a5, a6, ao, ab, aok, pok, ook, tok, gok⟩ := aq (x1)
  refine S_nil (hK1 _ _ (V_keep [0] (by simp only [proj, lk, reduceIte, Nat.reduceEqDiff]; rfl) ?_)); clear hK1
  refine V_reg T.mix (by kernel_rfl) ?_
  refine S_mv rfl ?_
  refine S_nc rfl ?_
  first | refine S_fa0 T.f59_3 rfl ?_ | refine S_fa T.f59_3 rfl ?_
  refine S_ldK T.ag3 rfl (fun K' hK' => ?_)
  simp (disch := omega) only [a0, a1, a2, a3, a4, a5, a6, ao, ab, oP_some, Nat.add_zero]
  refine hK' _ ?_; clear hK' K'
  refine S_addN (n + 1) rfl rfl (by omega) (by omega) ?_
  refine S_nc rfl ?_
  first | refine S_fa0 T.f59_3 rfl ?_ | refine S_fa T.f59_3 rfl ?_
  refine S_st T.sz3 rfl rfl rfl rfl (by simp (disch := omega) only [aok, pok, ook, tok, gok]) ?_
  generalize hh : putH _ _ _ = h2
  have x2 : A0 h2 A K D (n + 1) (Huf.ups g n (v : Int)) fo ft gn := by rw [← hh]; exact x1.pf (n + 1)
  have hEh2 : Ext (AT A) h1 h2 := by rw [← hh]; exact Ext.put _ _ ⟨by omega, by omega⟩
  clear hh
  try clear a0 a1 a2 a3 a4 a5 a6 ao ab aok pok ook tok gok
  obtain ⟨a0, a1, a2, a3, a4, a5, a6, ao, ab, aok, pok, ook, tok, gok⟩ := aq (x2)
  refine S_nilk [] (by simp only [proj, lk, reduceIte, Nat.reduceEqDiff]; rfl) ?_
  -- end
  refine hR _ _ (ret0 rfl ?_)
  exact ⟨rfl, ⟨by rw [List.length_append]; simp; omega, _, by rw [List.length_append]; simp only [List.length_cons, List.length_nil]; rw [← en]; exact x2, by rw [en]; exact pr.snoc _⟩, hEh1.trans hEh2⟩
set_option maxHeartbeats 800000 in
theorem two_spec (h : Heap) (A K D : Nat) (t : List Int) (fo ft : Nat → Nat) (gn : Nat → Int) (ax : AX h A K D t fo ft gn) (v : Nat) (hv : v < 65536) (hl : t.length + 2 ≤ 1200) :
    FC Tryz.prog 51 (#[.pointer (some ⟨A, 0, none⟩), .int .i64 (v : Int)] : Array Value) h fun rv h' => rv = .tuple #[] ∧ AX h' A K D (t ++ t2 v) fo ft gn ∧ Ext (AT A) h h' := by
  obtain ⟨g, x0, pr⟩ := ax.x
  obtain ⟨n, en⟩ : ∃ n, n = t.length := ⟨_, rfl⟩
  rw [← en] at x0
  have hAl := x0.lt
  try clear a0 a1 a2 a3 a4 a5 a6 ao ab aok pok ook tok gok
  obtain ⟨a0, a1, a2, a3, a4, a5, a6, ao, ab, aok, pok, ook, tok, gok⟩ := aq (x0)
  refine FC_of [(0, .pointer (some ⟨A, 0, none⟩)), (1, .int .i64 (v : Int))] Tryz.func51 rfl Tryz.ntmps51 (by simp) rfl (fun R hR => ?_)
  refine V_sr T.mix (by kernel_rfl) (fun K1 hK1 => ?_)
  refine S_mv rfl ?_
  refine S_nc rfl ?_
  first | refine S_fa0 T.f59_2 rfl ?_ | refine S_fa T.f59_2 rfl ?_
  refine S_ldK T.ag55 rfl (fun K' hK' => ?_)
  simp (disch := omega) only [a0, a1, a2, a3, a4, a5, a6, ao, ab, oP_some, Nat.add_zero]
  refine hK' _ ?_; clear hK' K'
  refine S_mv rfl ?_
  refine S_nc rfl ?_
  first | refine S_fa0 T.f59_3 rfl ?_ | refine S_fa T.f59_3 rfl ?_
  refine S_ldK T.ag3 rfl (fun K' hK' => ?_)
  simp (disch := omega) only [a0, a1, a2, a3, a4, a5, a6, ao, ab, oP_some, Nat.add_zero]
  refine hK' _ ?_; clear hK' K'
  refine S_mv rfl ?_
  refine S_nand v 255 (v % 256) rfl rfl rfl rfl (and255 v) (BitW.top_i64 (by omega)) (BitW.top_i64 (by decide)) ?_
  refine S_cvN (v % 256) T.us3 T.in5 rfl rfl (top_u8 (by omega)) ?_
  refine S_ixN n T.el55 rfl rfl rfl (by omega) ?_
  refine S_st T.sz5 rfl rfl rfl rfl (by simp (disch := omega) only [aok, pok, ook, tok, gok]) ?_
  generalize hh : putH _ _ _ = h1
  have x1 : A0 h1 A K D n (Huf.ups g n ((v % 256 : Nat) : Int)) fo ft gn := by rw [← hh]; exact x0.pp n ((v % 256 : Nat) : Int)
  have hEh1 : Ext (AT A) h h1 := by rw [← hh]; exact Ext.put _ _ ⟨by omega, by omega⟩
  clear hh
  try clear a0 a1 a2 a3 a4 a5 a6 ao ab aok pok ook tok gok
  obtain ⟨a0, a1, a2, a3, a4, a5, a6, ao, ab, aok, pok, ook, tok, gok⟩ := aq (x1)
  refine S_nil (hK1 _ _ (V_keep [0, 1] (by simp only [proj, lk, reduceIte, Nat.reduceEqDiff]; rfl) ?_)); clear hK1
  refine V_sr T.mix (by kernel_rfl) (fun K2 hK2 => ?_)
  refine S_mv rfl ?_
  refine S_nc rfl ?_
  first | refine S_fa0 T.f59_2 rfl ?_ | refine S_fa T.f59_2 rfl ?_
  refine S_ldK T.ag55 rfl (fun K' hK' => ?_)
  simp (disch := omega) only [a0, a1, a2, a3, a4, a5, a6, ao, ab, oP_some, Nat.add_zero]
  refine hK' _ ?_; clear hK' K'
  refine S_mv rfl ?_
  refine S_nc rfl ?_
  first | refine S_fa0 T.f59_3 rfl ?_ | refine S_fa T.f59_3 rfl ?_
  refine S_ldK T.ag3 rfl (fun K' hK' => ?_)
  simp (disch := omega) only [a0, a1, a2, a3, a4, a5, a6, ao, ab, oP_some, Nat.add_zero]
  refine hK' _ ?_; clear hK' K'
  refine S_addN (n + 1) rfl rfl (by omega) (by omega) ?_
  refine S_mv rfl ?_
  refine S_nshr v 8 (v / 256) rfl rfl rfl rfl (by rw [show (256 : Nat) = 2 ^ 8 from rfl]) (by decide) ?_
  refine S_nand (v / 256) 255 (v / 256 % 256) rfl rfl rfl rfl (and255 _) (BitW.top_i64 (by omega)) (BitW.top_i64 (by decide)) ?_
  refine S_cvN (v / 256 % 256) T.us3 T.in5 rfl rfl (top_u8 (by omega)) ?_
  refine S_ixN (n + 1) T.el55 rfl rfl rfl (by omega) ?_
  refine S_st T.sz5 rfl rfl rfl rfl (by simp (disch := omega) only [aok, pok, ook, tok, gok]) ?_
  generalize hh : putH _ _ _ = h2
  have x2 : A0 h2 A K D n (Huf.ups (Huf.ups g n ((v % 256 : Nat) : Int)) (n + 1) ((v / 256 % 256 : Nat) : Int)) fo ft gn := by rw [← hh]; exact x1.pp (n + 1) ((v / 256 % 256 : Nat) : Int)
  have hEh2 : Ext (AT A) h1 h2 := by rw [← hh]; exact Ext.put _ _ ⟨by omega, by omega⟩
  clear hh
  try clear a0 a1 a2 a3 a4 a5 a6 ao ab aok pok ook tok gok
  obtain ⟨a0, a1, a2, a3, a4, a5, a6, ao, ab, aok, pok, ook, tok, gok⟩ := aq (x2)
  refine S_nil (hK2 _ _ (V_keep [0] (by simp only [proj, lk, reduceIte, Nat.reduceEqDiff]; rfl) ?_)); clear hK2
  refine V_reg T.mix (by kernel_rfl) ?_
  refine S_mv rfl ?_
  refine S_mv rfl ?_
  refine S_nc rfl ?_
  first | refine S_fa0 T.f59_3 rfl ?_ | refine S_fa T.f59_3 rfl ?_
  refine S_ldK T.ag3 rfl (fun K' hK' => ?_)
  simp (disch := omega) only [a0, a1, a2, a3, a4, a5, a6, ao, ab, oP_some, Nat.add_zero]
  refine hK' _ ?_; clear hK' K'
  refine S_addN (n + 2) rfl rfl (by omega) (by omega) ?_
  refine S_nc rfl ?_
  first | refine S_fa0 T.f59_3 rfl ?_ | refine S_fa T.f59_3 rfl ?_
  refine S_st T.sz3 rfl rfl rfl rfl (by simp (disch := omega) only [aok, pok, ook, tok, gok]) ?_
  generalize hh : putH _ _ _ = h3
  have x3 : A0 h3 A K D (n + 2) (Huf.ups (Huf.ups g n ((v % 256 : Nat) : Int)) (n + 1) ((v / 256 % 256 : Nat) : Int)) fo ft gn := by rw [← hh]; exact x2.pf (n + 2)
  have hEh3 : Ext (AT A) h2 h3 := by rw [← hh]; exact Ext.put _ _ ⟨by omega, by omega⟩
  clear hh
  try clear a0 a1 a2 a3 a4 a5 a6 ao ab aok pok ook tok gok
  obtain ⟨a0, a1, a2, a3, a4, a5, a6, ao, ab, aok, pok, ook, tok, gok⟩ := aq (x3)
  refine S_nilk [] (by simp only [proj, lk, reduceIte, Nat.reduceEqDiff]; rfl) ?_
  -- end
  refine hR _ _ (ret0 rfl ?_)
  have e2 : (t ++ t2 v).length = n + 2 := by rw [List.length_append, en]; rfl
  have q2 : t ++ t2 v = (t ++ [((v % 256 : Nat) : Int)]) ++ [((v / 256 % 256 : Nat) : Int)] := by rw [List.append_assoc]; rfl
  have p1 := pr.snoc ((v % 256 : Nat) : Int)
  have p2 := p1.snoc ((v / 256 % 256 : Nat) : Int)
  have e1 : (t ++ [((v % 256 : Nat) : Int)]).length = n + 1 := by rw [List.length_append, en]; rfl
  rw [e1, ← en, ← q2] at p2
  exact ⟨rfl, ⟨by omega, _, by rw [e2]; exact x3, p2⟩, (hEh1.trans hEh2).trans hEh3⟩
set_option maxHeartbeats 800000 in
theorem lay_spec (h : Heap) (A K D : Nat) (t : List Int) (fo ft : Nat → Nat) (gn : Nat → Int) (ax : AX h A K D t fo ft gn) (s : ByteArray) (hl : t.length < 1200) (hl2 : t.length + s.size ≤ 1200) :
    FC Tryz.prog 68 (#[.pointer (some ⟨A, 0, none⟩), .string s] : Array Value) h fun rv h' => rv = .tuple #[] ∧ AX h' A K D (t ++ bz s) fo ft gn ∧ Ext (AT A) h h' := by
  obtain ⟨g, x0, pr⟩ := ax.x
  obtain ⟨n, en⟩ : ∃ n, n = t.length := ⟨_, rfl⟩
  rw [← en] at x0
  have hAl := x0.lt
  try clear a0 a1 a2 a3 a4 a5 a6 ao ab aok pok ook tok gok
  obtain ⟨a0, a1, a2, a3, a4, a5, a6, ao, ab, aok, pok, ook, tok, gok⟩ := aq (x0)
  refine FC_of [(0, .pointer (some ⟨A, 0, none⟩)), (1, .string s)] Tryz.func68 rfl Tryz.ntmps68 (by simp) rfl (fun R hR => ?_)
  refine V_sr T.mix (by kernel_rfl) (fun K1 hK1 => ?_)
  refine S_mv rfl ?_
  refine S_nc rfl ?_
  first | refine S_fa0 T.f59_2 rfl ?_ | refine S_fa T.f59_2 rfl ?_
  refine S_ldK T.ag55 rfl (fun K' hK' => ?_)
  simp (disch := omega) only [a0, a1, a2, a3, a4, a5, a6, ao, ab, oP_some, Nat.add_zero]
  refine hK' _ ?_; clear hK' K'
  refine S_mv rfl ?_
  refine S_nc rfl ?_
  first | refine S_fa0 T.f59_3 rfl ?_ | refine S_fa T.f59_3 rfl ?_
  refine S_ldK T.ag3 rfl (fun K' hK' => ?_)
  simp (disch := omega) only [a0, a1, a2, a3, a4, a5, a6, ao, ab, oP_some, Nat.add_zero]
  refine hK' _ ?_; clear hK' K'
  refine S_sl rfl rfl rfl (sliceV_lo T.el55 (by omega) (by omega) (by omega)) ?_
  rw [Nat.zero_add, Nat.mul_one]
  refine S_mv rfl ?_
  refine S_copyo T.el55 rfl (by omega) x0.p (by omega) (fun h1 hb1 hE1 _ => ?_)
  have x1 : A0 h1 A K D n (fun j => if n ≤ j ∧ j < n + s.size then ((bAt s (j - n) : Nat) : Int) else g j) fo ft gn := x0.pagex (hb1.cong (arr_ext fun j _ => by by_cases c : n ≤ j ∧ j < n + s.size; (simp only [if_pos c]); (simp only [if_neg c]))) hE1
  have hEh1 : Ext (AT A) h h1 := hE1.mono fun z e => ⟨by omega, by omega⟩
  try clear a0 a1 a2 a3 a4 a5 a6 ao ab aok pok ook tok gok
  obtain ⟨a0, a1, a2, a3, a4, a5, a6, ao, ab, aok, pok, ook, tok, gok⟩ := aq (x1)
  refine S_nil (hK1 _ _ (V_keep [0, 1] (by simp only [proj, lk, reduceIte, Nat.reduceEqDiff]; rfl) ?_)); clear hK1
  refine V_reg T.mix (by kernel_rfl) ?_
  refine S_mv rfl ?_
  refine S_mv rfl ?_
  refine S_nc rfl ?_
  first | refine S_fa0 T.f59_3 rfl ?_ | refine S_fa T.f59_3 rfl ?_
  refine S_ldK T.ag3 rfl (fun K' hK' => ?_)
  simp (disch := omega) only [a0, a1, a2, a3, a4, a5, a6, ao, ab, oP_some, Nat.add_zero]
  refine hK' _ ?_; clear hK' K'
  refine S_mv rfl ?_
  refine S_lens T.kd9 rfl ?_
  refine S_addN (n + s.size) rfl rfl (by omega) (by omega) ?_
  refine S_nc rfl ?_
  first | refine S_fa0 T.f59_3 rfl ?_ | refine S_fa T.f59_3 rfl ?_
  refine S_st T.sz3 rfl rfl rfl rfl (by simp (disch := omega) only [aok, pok, ook, tok, gok]) ?_
  generalize hh : putH _ _ _ = h2
  have x2 : A0 h2 A K D (n + s.size) (fun j => if n ≤ j ∧ j < n + s.size then ((bAt s (j - n) : Nat) : Int) else g j) fo ft gn := by rw [← hh]; exact x1.pf (n + s.size)
  have hEh2 : Ext (AT A) h1 h2 := by rw [← hh]; exact Ext.put _ _ ⟨by omega, by omega⟩
  clear hh
  try clear a0 a1 a2 a3 a4 a5 a6 ao ab aok pok ook tok gok
  obtain ⟨a0, a1, a2, a3, a4, a5, a6, ao, ab, aok, pok, ook, tok, gok⟩ := aq (x2)
  refine S_nilk [] (by simp only [proj, lk, reduceIte, Nat.reduceEqDiff]; rfl) ?_
  -- end
  refine hR _ _ (ret0 rfl ?_)
  have e2 : (t ++ bz s).length = n + s.size := by rw [List.length_append, bz_len, en]
  have p2 : Pre (fun j => if n ≤ j ∧ j < n + s.size then ((bAt s (j - n) : Nat) : Int) else g j) (t ++ bz s) := pr.app (bz s) (fun j hj => if_neg (by omega)) (fun j hj => by rw [bz_len] at hj; rw [if_pos (by omega), show t.length + j - n = j by omega]; exact (byt_at hj).symm)
  exact ⟨rfl, ⟨by omega, _, by rw [e2]; exact x2, p2⟩, hEh1.trans hEh2⟩
set_option maxHeartbeats 400000 in
theorem acheck_spec (h : Heap) (A K D : Nat) (t : List Int) (fo ft : Nat → Nat) (gn : Nat → Int) (ax : AX h A K D t fo ft gn) :
    FC Tryz.prog 11 (#[.pointer (some ⟨A, 0, none⟩)] : Array Value) h fun rv h' => rv = .bool true ∧ h = h' := by
  obtain ⟨g, x0, pr⟩ := ax.x
  obtain ⟨n, en⟩ : ∃ n, n = t.length := ⟨_, rfl⟩
  rw [← en] at x0
  have hAl := x0.lt
  try clear a0 a1 a2 a3 a4 a5 a6 ao ab aok pok ook tok gok
  obtain ⟨a0, a1, a2, a3, a4, a5, a6, ao, ab, aok, pok, ook, tok, gok⟩ := aq (x0)
  have hle := ax.le
  refine FC_of [(0, .pointer (some ⟨A, 0, none⟩))] Tryz.func11 rfl Tryz.ntmps11 (by simp) rfl (fun R hR => ?_)
  refine V_sr T.mix (by kernel_rfl) (fun K1 hK1 => ?_)
  refine S_as rfl ?_
  refine S_nil (hK1 _ _ (V_keep [0] (by simp only [proj, lk, reduceIte, Nat.reduceEqDiff]; rfl) ?_)); clear hK1
  refine V_seq (fun K2 hK2 => ?_)
  refine V_sr T.mix (by kernel_rfl) (fun K3 hK3 => ?_)
  refine S_mv rfl ?_
  refine S_nc rfl ?_
  first | refine S_fa0 T.f59_0 rfl ?_ | refine S_fa T.f59_0 rfl ?_
  refine S_ldK T.ag27 rfl (fun K' hK' => ?_)
  simp (disch := omega) only [a0, a1, a2, a3, a4, a5, a6, ao, ab, oP_some, Nat.add_zero]
  refine hK' _ ?_; clear hK' K'
  refine S_bin rfl rfl (by simp only [binV, T.kd27]; rfl) ?_
  refine S_mv rfl ?_
  refine S_decb (fun g53 => ?_) (fun g53 => ?_)
  · skip
    cases g53
  · skip
    refine S_gt rfl ?_
    refine S_mv rfl ?_
    refine S_gt rfl ?_
    refine S_nc rfl ?_
    refine S_gt rfl ?_
    first | refine S_fa0 T.f59_1 rfl ?_ | refine S_fa T.f59_1 rfl ?_
    refine S_gt rfl ?_
    refine S_ldK T.ag28 rfl (fun K' hK' => ?_)
    simp (disch := omega) only [a0, a1, a2, a3, a4, a5, a6, ao, ab, oP_some, Nat.add_zero]
    refine hK' _ ?_; clear hK' K'
    refine S_gt rfl ?_
    refine S_bin rfl rfl (by simp only [binV, T.kd28]; rfl) ?_
    refine S_pf rfl rfl ?_
    refine S_nil (hK3 _ _ (V_keep [0, 14] (by simp only [proj, lk, reduceIte, Nat.reduceEqDiff]; rfl) ?_)); clear hK3
    refine V_condb rfl (fun c53 => ?_) (fun c53 => ?_)
    · skip
      cases c53
    · skip
      refine V_skipk [0] (by simp only [proj, lk, reduceIte, Nat.reduceEqDiff]; rfl) ?_
      refine hK2 _ _ ?_; clear hK2
      refine V_seq (fun K4 hK4 => ?_)
      refine V_sr T.mix (by kernel_rfl) (fun K5 hK5 => ?_)
      refine S_mv rfl ?_
      refine S_nc rfl ?_
      first | refine S_fa0 T.f59_2 rfl ?_ | refine S_fa T.f59_2 rfl ?_
      refine S_ldK T.ag55 rfl (fun K' hK' => ?_)
      simp (disch := omega) only [a0, a1, a2, a3, a4, a5, a6, ao, ab, oP_some, Nat.add_zero]
      refine hK' _ ?_; clear hK' K'
      refine S_lenl T.el55 rfl ?_
      refine S_bin rfl rfl rfl ?_
      refine S_mv rfl ?_
      refine S_dec (fun g56 => ?_) (fun g56 => ?_)
      · skip
        refine S_gf rfl ?_
        refine S_gf rfl ?_
        refine S_gf rfl ?_
        refine S_gf rfl ?_
        refine S_gf rfl ?_
        refine S_gf rfl ?_
        refine S_pt rfl rfl ?_
        refine S_nil (hK5 _ _ (V_keep [0, 28] (by simp only [proj, lk, reduceIte, Nat.reduceEqDiff]; rfl) ?_)); clear hK5
        refine V_condt rfl ?_
        refine V_sr T.mix (by kernel_rfl) (fun K6 hK6 => ?_)
        refine S_as rfl ?_
        refine S_nil (hK6 _ _ (V_keep [2] (by simp only [proj, lk, reduceIte, Nat.reduceEqDiff]; rfl) ?_)); clear hK6
        refine V_ret ?_
        refine hR _ _ (ret1 rfl rfl ?_)
        first
          | (exact ⟨by rw [decide_eq_true (by omega)], rfl⟩)
          | (exfalso; omega)
          | (exact ⟨rfl, rfl⟩)
      · skip
        refine S_gt rfl ?_
        refine S_mv rfl ?_
        refine S_gt rfl ?_
        refine S_nc rfl ?_
        refine S_gt rfl ?_
        first | refine S_fa0 T.f59_6 rfl ?_ | refine S_fa T.f59_6 rfl ?_
        refine S_gt rfl ?_
        refine S_ldK T.ag55 rfl (fun K' hK' => ?_)
        simp (disch := omega) only [a0, a1, a2, a3, a4, a5, a6, ao, ab, oP_some, Nat.add_zero]
        refine hK' _ ?_; clear hK' K'
        refine S_gt rfl ?_
        refine S_lenl T.el55 rfl ?_
        refine S_gt rfl ?_
        refine S_bin rfl rfl rfl ?_
        refine S_pf rfl rfl ?_
        refine S_nil (hK5 _ _ (V_keep [0, 28] (by simp only [proj, lk, reduceIte, Nat.reduceEqDiff]; rfl) ?_)); clear hK5
        refine V_condp rfl (fun c56 => ?_) (fun c56 => ?_)
        · skip
          refine V_sr T.mix (by kernel_rfl) (fun K7 hK7 => ?_)
          refine S_as rfl ?_
          refine S_nil (hK7 _ _ (V_keep [2] (by simp only [proj, lk, reduceIte, Nat.reduceEqDiff]; rfl) ?_)); clear hK7
          refine V_ret ?_
          refine hR _ _ (ret1 rfl rfl ?_)
          first
            | (exact ⟨by rw [decide_eq_true (by omega)], rfl⟩)
            | (exfalso; omega)
            | (exact ⟨rfl, rfl⟩)
        · skip
          refine V_skipk [0] (by simp only [proj, lk, reduceIte, Nat.reduceEqDiff]; rfl) ?_
          refine hK4 _ _ ?_; clear hK4
          refine V_seq (fun K8 hK8 => ?_)
          refine V_sr T.mix (by kernel_rfl) (fun K9 hK9 => ?_)
          refine S_mv rfl ?_
          refine S_nc rfl ?_
          first | refine S_fa0 T.f59_4 rfl ?_ | refine S_fa T.f59_4 rfl ?_
          refine S_ldK T.ag56 rfl (fun K' hK' => ?_)
          simp (disch := omega) only [a0, a1, a2, a3, a4, a5, a6, ao, ab, oP_some, Nat.add_zero]
          refine hK' _ ?_; clear hK' K'
          refine S_lenl T.el56 rfl ?_
          refine S_bin rfl rfl rfl ?_
          refine S_mv rfl ?_
          refine S_dec (fun g59 => ?_) (fun g59 => ?_)
          · skip
            refine S_gf rfl ?_
            refine S_gf rfl ?_
            refine S_gf rfl ?_
            refine S_gf rfl ?_
            refine S_gf rfl ?_
            refine S_gf rfl ?_
            refine S_pt rfl rfl ?_
            refine S_nil (hK9 _ _ (V_keep [0, 42] (by simp only [proj, lk, reduceIte, Nat.reduceEqDiff]; rfl) ?_)); clear hK9
            refine V_condt rfl ?_
            refine V_sr T.mix (by kernel_rfl) (fun K10 hK10 => ?_)
            refine S_as rfl ?_
            refine S_nil (hK10 _ _ (V_keep [2] (by simp only [proj, lk, reduceIte, Nat.reduceEqDiff]; rfl) ?_)); clear hK10
            refine V_ret ?_
            refine hR _ _ (ret1 rfl rfl ?_)
            first
              | (exact ⟨by rw [decide_eq_true (by omega)], rfl⟩)
              | (exfalso; omega)
              | (exact ⟨rfl, rfl⟩)
          · skip
            refine S_gt rfl ?_
            refine S_mv rfl ?_
            refine S_gt rfl ?_
            refine S_nc rfl ?_
            refine S_gt rfl ?_
            first | refine S_fa0 T.f59_5 rfl ?_ | refine S_fa T.f59_5 rfl ?_
            refine S_gt rfl ?_
            refine S_ldK T.ag57 rfl (fun K' hK' => ?_)
            simp (disch := omega) only [a0, a1, a2, a3, a4, a5, a6, ao, ab, oP_some, Nat.add_zero]
            refine hK' _ ?_; clear hK' K'
            refine S_gt rfl ?_
            refine S_lenl T.el57 rfl ?_
            refine S_gt rfl ?_
            refine S_bin rfl rfl rfl ?_
            refine S_pf rfl rfl ?_
            refine S_nil (hK9 _ _ (V_keep [0, 42] (by simp only [proj, lk, reduceIte, Nat.reduceEqDiff]; rfl) ?_)); clear hK9
            refine V_condp rfl (fun c59 => ?_) (fun c59 => ?_)
            · skip
              refine V_sr T.mix (by kernel_rfl) (fun K11 hK11 => ?_)
              refine S_as rfl ?_
              refine S_nil (hK11 _ _ (V_keep [2] (by simp only [proj, lk, reduceIte, Nat.reduceEqDiff]; rfl) ?_)); clear hK11
              refine V_ret ?_
              refine hR _ _ (ret1 rfl rfl ?_)
              first
                | (exact ⟨by rw [decide_eq_true (by omega)], rfl⟩)
                | (exfalso; omega)
                | (exact ⟨rfl, rfl⟩)
            · skip
              refine V_skipk [0] (by simp only [proj, lk, reduceIte, Nat.reduceEqDiff]; rfl) ?_
              refine hK8 _ _ ?_; clear hK8
              refine V_sr T.mix (by kernel_rfl) (fun K12 hK12 => ?_)
              refine S_mv rfl ?_
              refine S_nc rfl ?_
              first | refine S_fa0 T.f59_3 rfl ?_ | refine S_fa T.f59_3 rfl ?_
              refine S_ldK T.ag3 rfl (fun K' hK' => ?_)
              simp (disch := omega) only [a0, a1, a2, a3, a4, a5, a6, ao, ab, oP_some, Nat.add_zero]
              refine hK' _ ?_; clear hK' K'
              refine S_bin rfl rfl rfl ?_
              refine S_mv rfl ?_
              refine S_dec (fun g62 => ?_) (fun g62 => ?_)
              · skip
                refine S_gt rfl ?_
                refine S_mv rfl ?_
                refine S_gt rfl ?_
                refine S_nc rfl ?_
                refine S_gt rfl ?_
                first | refine S_fa0 T.f59_3 rfl ?_ | refine S_fa T.f59_3 rfl ?_
                refine S_gt rfl ?_
                refine S_ldK T.ag3 rfl (fun K' hK' => ?_)
                simp (disch := omega) only [a0, a1, a2, a3, a4, a5, a6, ao, ab, oP_some, Nat.add_zero]
                refine hK' _ ?_; clear hK' K'
                refine S_gt rfl ?_
                refine S_mv rfl ?_
                refine S_gt rfl ?_
                refine S_nc rfl ?_
                refine S_gt rfl ?_
                first | refine S_fa0 T.f59_2 rfl ?_ | refine S_fa T.f59_2 rfl ?_
                refine S_gt rfl ?_
                refine S_ldK T.ag55 rfl (fun K' hK' => ?_)
                simp (disch := omega) only [a0, a1, a2, a3, a4, a5, a6, ao, ab, oP_some, Nat.add_zero]
                refine hK' _ ?_; clear hK' K'
                refine S_gt rfl ?_
                refine S_lenl T.el55 rfl ?_
                refine S_gt rfl ?_
                refine S_bin rfl rfl rfl ?_
                refine S_pt rfl rfl ?_
                refine S_as rfl ?_
                refine S_nil (hK12 _ _ (V_keep [2] (by simp only [proj, lk, reduceIte, Nat.reduceEqDiff]; rfl) ?_)); clear hK12
                refine V_ret ?_
                refine hR _ _ (ret1 rfl rfl ?_)
                first
                  | (exact ⟨by rw [decide_eq_true (by omega)], rfl⟩)
                  | (exfalso; omega)
                  | (exact ⟨rfl, rfl⟩)
              · skip
                refine S_gf rfl ?_
                refine S_gf rfl ?_
                refine S_gf rfl ?_
                refine S_gf rfl ?_
                refine S_gf rfl ?_
                refine S_gf rfl ?_
                refine S_gf rfl ?_
                refine S_gf rfl ?_
                refine S_gf rfl ?_
                refine S_gf rfl ?_
                refine S_pf rfl rfl ?_
                refine S_as rfl ?_
                refine S_nil (hK12 _ _ (V_keep [2] (by simp only [proj, lk, reduceIte, Nat.reduceEqDiff]; rfl) ?_)); clear hK12
                refine V_ret ?_
                refine hR _ _ (ret1 rfl rfl ?_)
                first
                  | (exact ⟨by rw [decide_eq_true (by omega)], rfl⟩)
                  | (exfalso; omega)
                  | (exact ⟨rfl, rfl⟩)
set_option maxHeartbeats 400000 in
theorem judge_spec (h : Heap) (lo : Nat) (a : Option Addr) (cp : Nat) (Q : List En) (ev : EV lo h a Q) (hQ : Q.length ≤ 5) :
    FC Tryz.prog 49 (#[.slice a Q.length cp] : Array Value) h fun rv h' => rv = .int .i64 ((ckL Q : Nat) : Int) ∧ h = h' := by
  refine FC_of [(0, .slice a Q.length cp)] Tryz.func49 rfl Tryz.ntmps49 (by simp) rfl (fun R hR => ?_)
  refine V_sr T.mix (by kernel_rfl) (fun K1 hK1 => ?_)
  refine S_as rfl ?_
  refine S_nil (hK1 _ _ (V_keep [0] (by simp only [proj, lk, reduceIte, Nat.reduceEqDiff]; rfl) ?_)); clear hK1
  refine V_seq (fun K2 hK2 => ?_)
  refine V_sr T.mix (by kernel_rfl) (fun K3 hK3 => ?_)
  refine S_as rfl ?_
  refine S_nil (hK3 _ _ (V_keep [0, 3] (by simp only [proj, lk, reduceIte, Nat.reduceEqDiff]; rfl) ?_)); clear hK3
  refine V_block ?_
  refine V_loop (fun m l h' => ∃ (i : Nat), (i ≤ Q.length) ∧ (ckL Q = ckL (Q.drop i)) ∧ m = Q.length - i ∧ l = [(0, .slice a Q.length cp), (3, .int .i64 (i : Int))] ∧ h = h') _ ⟨0, Nat.zero_le _, by rw [List.drop_zero], rfl, rfl, rfl⟩ ?_
  rintro m l h' ⟨i, hi, hq, rfl, rfl, rfl⟩ K4 hK4
  refine V_seq (fun K5 hK5 => ?_)
  refine V_sr T.mix (by kernel_rfl) (fun K6 hK6 => ?_)
  refine S_mv rfl ?_
  refine S_mv rfl ?_
  refine S_lenl T.el37 rfl ?_
  refine S_bin rfl rfl rfl ?_
  refine S_nil (hK6 _ _ (V_keep [0, 3, 8] (by simp only [proj, lk, reduceIte, Nat.reduceEqDiff]; rfl) ?_)); clear hK6
  refine V_condp rfl (fun c28 => ?_) (fun c28 => ?_)
  · skip
    refine V_skipk [0, 3] (by simp only [proj, lk, reduceIte, Nat.reduceEqDiff]; rfl) ?_
    refine hK5 _ _ ?_; clear hK5
    refine V_seq (fun K7 hK7 => ?_)
    refine V_block ?_
    refine V_sr T.mix (by kernel_rfl) (fun K8 hK8 => ?_)
    refine S_mv rfl ?_
    refine S_mv rfl ?_
    obtain ⟨b, rfl, hb1, hb2, hc⟩ := ev.get (i := i) (by omega)
    have n0 := (hc i (by omega)).1
    have n1 := (hc i (by omega)).2
    refine S_ix T.el37 rfl rfl (by omega) (by omega) ?_
    rw [Nat.zero_add, Int.toNat_natCast]
    obtain ⟨nm, enm⟩ : ∃ x, x = (ga Q i).1 := ⟨_, rfl⟩
    obtain ⟨dt, edt⟩ : ∃ x, x = (ga Q i).2 := ⟨_, rfl⟩
    rw [← enm] at n0
    rw [← edt] at n1
    first | refine S_fa0 T.f104_0 rfl ?_ | refine S_fa T.f104_0 rfl ?_
    refine S_ldK T.ag9 rfl (fun K' hK' => ?_)
    simp (disch := omega) only [n0, n1, oP_some, Nat.add_zero]
    refine hK' _ ?_; clear hK' K'
    refine S_lens T.kd9 rfl ?_
    refine S_as rfl ?_
    refine S_nil (hK8 _ _ (V_keep [0, 3, 4] (by simp only [proj, lk, reduceIte, Nat.reduceEqDiff]; rfl) ?_)); clear hK8
    refine V_seq (fun K9 hK9 => ?_)
    refine V_sr T.mix (by kernel_rfl) (fun K10 hK10 => ?_)
    refine S_mv rfl ?_
    refine S_bin rfl rfl rfl ?_
    refine S_mv rfl ?_
    refine S_dec (fun g30 => ?_) (fun g30 => ?_)
    · skip
      refine S_gf rfl ?_
      refine S_gf rfl ?_
      refine S_pt rfl rfl ?_
      refine S_nil (hK10 _ _ (V_keep [0, 3, 22] (by simp only [proj, lk, reduceIte, Nat.reduceEqDiff]; rfl) ?_)); clear hK10
      refine V_condt rfl ?_
      refine V_sr T.mix (by kernel_rfl) (fun K11 hK11 => ?_)
      refine S_as rfl ?_
      refine S_nil (hK11 _ _ (V_keep [2] (by simp only [proj, lk, reduceIte, Nat.reduceEqDiff]; rfl) ?_)); clear hK11
      refine V_ret ?_
      refine hR _ _ (ret1 rfl rfl ?_)
      have hv : ckL Q = 16 := by rw [hq, ckL_step (by omega), ← enm, if_pos (by omega)]
      exact ⟨by rw [hv]; rfl, rfl⟩
    · skip
      refine S_gt rfl ?_
      refine S_mv rfl ?_
      refine S_gt rfl ?_
      refine S_bin rfl rfl rfl ?_
      refine S_pf rfl rfl ?_
      refine S_nil (hK10 _ _ (V_keep [0, 3, 22] (by simp only [proj, lk, reduceIte, Nat.reduceEqDiff]; rfl) ?_)); clear hK10
      refine V_condp rfl (fun c30 => ?_) (fun c30 => ?_)
      · skip
        refine V_sr T.mix (by kernel_rfl) (fun K12 hK12 => ?_)
        refine S_as rfl ?_
        refine S_nil (hK12 _ _ (V_keep [2] (by simp only [proj, lk, reduceIte, Nat.reduceEqDiff]; rfl) ?_)); clear hK12
        refine V_ret ?_
        refine hR _ _ (ret1 rfl rfl ?_)
        have hv : ckL Q = 16 := by rw [hq, ckL_step (by omega), ← enm, if_pos (by omega)]
        exact ⟨by rw [hv]; rfl, rfl⟩
      · skip
        refine V_skipk [0, 3] (by simp only [proj, lk, reduceIte, Nat.reduceEqDiff]; rfl) ?_
        refine hK9 _ _ ?_; clear hK9
        refine V_sr T.mix (by kernel_rfl) (fun K13 hK13 => ?_)
        refine S_mv rfl ?_
        refine S_mv rfl ?_
        refine S_ix T.el37 rfl rfl (by omega) (by omega) ?_
        rw [Nat.zero_add, Int.toNat_natCast]
        first | refine S_fa0 T.f104_1 rfl ?_ | refine S_fa T.f104_1 rfl ?_
        refine S_ldK T.ag9 rfl (fun K' hK' => ?_)
        simp (disch := omega) only [n0, n1, oP_some, Nat.add_zero]
        refine hK' _ ?_; clear hK' K'
        refine S_lens T.kd9 rfl ?_
        refine S_bin rfl rfl rfl ?_
        refine S_nil (hK13 _ _ (V_keep [0, 3, 29] (by simp only [proj, lk, reduceIte, Nat.reduceEqDiff]; rfl) ?_)); clear hK13
        refine V_condp rfl (fun c33 => ?_) (fun c33 => ?_)
        · skip
          refine V_sr T.mix (by kernel_rfl) (fun K14 hK14 => ?_)
          refine S_as rfl ?_
          refine S_nil (hK14 _ _ (V_keep [2] (by simp only [proj, lk, reduceIte, Nat.reduceEqDiff]; rfl) ?_)); clear hK14
          refine V_ret ?_
          refine hR _ _ (ret1 rfl rfl ?_)
          have hv : ckL Q = 1 := by rw [hq, ckL_step (by omega), ← enm, ← edt, if_neg (by omega), if_pos (by omega)]
          exact ⟨by rw [hv]; rfl, rfl⟩
        · skip
          refine V_skipk [0, 3] (by simp only [proj, lk, reduceIte, Nat.reduceEqDiff]; rfl) ?_
          refine hK7 _ _ ?_; clear hK7
          refine V_reg T.mix (by kernel_rfl) ?_
          refine S_mv rfl ?_
          refine S_addN (i + 1) rfl rfl (by omega) (by omega) ?_
          refine S_as rfl ?_
          refine S_nilk [0, 3] (by simp only [proj, lk, reduceIte, Nat.reduceEqDiff]; rfl) ?_
          exact hK4 _ _ ⟨_, by omega, i + 1, by omega, by rw [hq, ckL_step (by omega), ← enm, ← edt, if_neg (by omega), if_neg (by omega)], rfl, rfl, rfl⟩
  · skip
    refine V_exitk [] rfl (by simp only [proj, lk, reduceIte, Nat.reduceEqDiff]; rfl) ?_
    refine hK2 _ _ ?_; clear hK2
    refine V_sr T.mix (by kernel_rfl) (fun K15 hK15 => ?_)
    refine S_as rfl ?_
    refine S_nil (hK15 _ _ (V_keep [2] (by simp only [proj, lk, reduceIte, Nat.reduceEqDiff]; rfl) ?_)); clear hK15
    refine V_ret ?_
    refine hR _ _ (ret1 rfl rfl ?_)
    have hv : ckL Q = 0 := by rw [hq, ckL_end (by omega)]
    exact ⟨by rw [hv]; rfl, rfl⟩
set_option maxHeartbeats 400000 in
theorem sum_spec (h : Heap) (u : ByteArray) (hu : u.size ≤ 9223372036854775807) :
    FC Tryz.prog 56 (#[.string u] : Array Value) h fun rv h' => rv = .int .i64 ((smF u : Nat) : Int) ∧ h = h' := by
  refine FC_of [(0, .string u)] Tryz.func56 rfl Tryz.ntmps56 (by simp) rfl (fun R hR => ?_)
  refine V_sr T.mix (by kernel_rfl) (fun K1 hK1 => ?_)
  refine S_as rfl ?_
  refine S_nil (hK1 _ _ (V_keep [0] (by simp only [proj, lk, reduceIte, Nat.reduceEqDiff]; rfl) ?_)); clear hK1
  refine V_sr T.mix (by kernel_rfl) (fun K2 hK2 => ?_)
  refine S_as rfl ?_
  refine S_nil (hK2 _ _ (V_keep [0, 3] (by simp only [proj, lk, reduceIte, Nat.reduceEqDiff]; rfl) ?_)); clear hK2
  refine V_sr T.mix (by kernel_rfl) (fun K3 hK3 => ?_)
  refine S_as rfl ?_
  refine S_nil (hK3 _ _ (V_keep [0, 3, 4] (by simp only [proj, lk, reduceIte, Nat.reduceEqDiff]; rfl) ?_)); clear hK3
  refine V_seq (fun K4 hK4 => ?_)
  refine V_sr T.mix (by kernel_rfl) (fun K5 hK5 => ?_)
  refine S_as rfl ?_
  refine S_nil (hK5 _ _ (V_keep [0, 3, 4, 5] (by simp only [proj, lk, reduceIte, Nat.reduceEqDiff]; rfl) ?_)); clear hK5
  refine V_block ?_
  refine V_loop (fun m l h' => ∃ (i la lb : Nat), (i ≤ u.size) ∧ (la ≤ 250) ∧ (lb ≤ 250) ∧ (smS (byt u i) = (la, lb)) ∧ m = u.size - i ∧ l = [(0, .string u), (3, .int .i64 (la : Int)), (4, .int .i64 (lb : Int)), (5, .int .i64 (i : Int))] ∧ h = h') _ ⟨0, 1, 0, Nat.zero_le _, by omega, by omega, rfl, rfl, rfl, rfl⟩ ?_
  rintro m l h' ⟨i, la, lb, hi, hla, hlb, hs, rfl, rfl, rfl⟩ K6 hK6
  refine V_seq (fun K7 hK7 => ?_)
  refine V_sr T.mix (by kernel_rfl) (fun K8 hK8 => ?_)
  refine S_mv rfl ?_
  refine S_mv rfl ?_
  refine S_lens T.kd9 rfl ?_
  refine S_bin rfl rfl rfl ?_
  refine S_nil (hK8 _ _ (V_keep [0, 3, 4, 5, 9] (by simp only [proj, lk, reduceIte, Nat.reduceEqDiff]; rfl) ?_)); clear hK8
  refine V_condp rfl (fun c41 => ?_) (fun c41 => ?_)
  · skip
    refine V_skipk [0, 3, 4, 5] (by simp only [proj, lk, reduceIte, Nat.reduceEqDiff]; rfl) ?_
    refine hK7 _ _ ?_; clear hK7
    refine V_seq (fun K9 hK9 => ?_)
    refine V_block ?_
    refine V_sr T.mix (by kernel_rfl) (fun K10 hK10 => ?_)
    refine S_mv rfl ?_
    refine S_mv rfl ?_
    refine S_mv rfl ?_
    refine S_si T.kd9 rfl rfl (by omega) (by omega) ?_
    rw [Int.toNat_natCast]
    have hb_ := bAt_lt u i
    obtain ⟨b_, eb⟩ : ∃ x, x = bAt u i := ⟨_, rfl⟩
    rw [← eb] at hb_ ⊢
    first | refine S_cvi T.us5 T.in3 rfl (by omega) (by omega) ?_ | refine S_cv T.us5 T.in3 rfl ?_
    refine S_addN (la + b_) rfl rfl (by omega) (by omega) ?_
    refine S_rem rfl rfl (by omega) (by omega) ?_
    rw [show ((la + b_ : Nat) : Int) % 251 = (((la + b_) % 251 : Nat) : Int) by omega]
    refine S_as rfl ?_
    refine S_nil (hK10 _ _ (V_keep [0, 3, 4, 5] (by simp only [proj, lk, reduceIte, Nat.reduceEqDiff]; rfl) ?_)); clear hK10
    refine V_reg T.mix (by kernel_rfl) ?_
    refine S_mv rfl ?_
    refine S_mv rfl ?_
    refine S_addN (lb + (la + b_) % 251) rfl rfl (by omega) (by omega) ?_
    refine S_rem rfl rfl (by omega) (by omega) ?_
    rw [show ((lb + (la + b_) % 251 : Nat) : Int) % 251 = (((lb + (la + b_) % 251) % 251 : Nat) : Int) by omega]
    refine S_as rfl ?_
    refine S_nilk [0, 3, 4, 5] (by simp only [proj, lk, reduceIte, Nat.reduceEqDiff]; rfl) ?_
    refine hK9 _ _ ?_; clear hK9
    refine V_reg T.mix (by kernel_rfl) ?_
    refine S_mv rfl ?_
    refine S_addN (i + 1) rfl rfl (by omega) (by omega) ?_
    refine S_as rfl ?_
    refine S_nilk [0, 3, 4, 5] (by simp only [proj, lk, reduceIte, Nat.reduceEqDiff]; rfl) ?_
    exact hK6 _ _ ⟨_, by omega, i + 1, (la + b_) % 251, (lb + (la + b_) % 251) % 251, by omega, by omega, by omega, by rw [Lz.byt_succ, smS_snoc, hs, ← eb]; rfl, rfl, rfl, rfl⟩
  · skip
    refine V_exitk [3, 4] rfl (by simp only [proj, lk, reduceIte, Nat.reduceEqDiff]; rfl) ?_
    refine hK4 _ _ ?_; clear hK4
    refine V_sr T.mix (by kernel_rfl) (fun K11 hK11 => ?_)
    refine S_mv rfl ?_
    refine S_mul rfl rfl (by omega) (by omega) ?_
    refine S_mv rfl ?_
    refine S_addN (lb * 256 + la) rfl rfl (by omega) (by omega) ?_
    refine S_as rfl ?_
    refine S_nil (hK11 _ _ (V_keep [2] (by simp only [proj, lk, reduceIte, Nat.reduceEqDiff]; rfl) ?_)); clear hK11
    refine V_ret ?_
    refine hR _ _ (ret1 rfl rfl ?_)
    have hv : smF u = lb * 256 + la := by unfold smF bz smL; rw [show u.size = i by omega, hs]
    exact ⟨by rw [hv], rfl⟩
set_option maxHeartbeats 3200000 in
theorem anew_spec (h : Heap) (K D : Nat) :
    FC Tryz.prog 9 (#[.pointer (some ⟨K, 0, none⟩), .pointer (some ⟨D, 0, none⟩)] : Array Value) h fun rv h' => rv = .pointer (some ⟨h.size, 0, none⟩) ∧ AX h' h.size K D [] (fun _ => 0) (fun _ => 0) (fun _ => 0) ∧ Ext (fun _ => False) h h' ∧ h'.size = h.size + 5 := by
  refine FC_of [(0, .pointer (some ⟨K, 0, none⟩)), (1, .pointer (some ⟨D, 0, none⟩))] Tryz.func9 rfl Tryz.ntmps9 (by simp) rfl (fun R hR => ?_)
  refine V_sr T.mix (by kernel_rfl) (fun K1 hK1 => ?_)
  refine S_as rfl ?_
  refine S_nil (hK1 _ _ (V_keep [0, 1] (by simp only [proj, lk, reduceIte, Nat.reduceEqDiff]; rfl) ?_)); clear hK1
  refine V_sr T.mix (by kernel_rfl) (fun K2 hK2 => ?_)
  refine S_mv rfl ?_
  refine S_mv rfl ?_
  refine S_bld rfl (T.bld59_0_1 _ _) ?_
  refine S_boxA rfl ?_
  generalize hh : Array.push h _ = g0
  have bt0 : B g0 h.size #[.pointer (some ⟨K, 0, none⟩), .pointer (some ⟨D, 0, none⟩), .slice none 0 0, .int .i64 0, .slice none 0 0, .slice none 0 0, .slice none 0 0] 59 := by rw [← hh]; exact B.new _ _ _
  have hEg0 : Ext (fun _ => False) h g0 := by rw [← hh]; exact Ext.push _ _ _
  have hs_g0 : g0.size = h.size + 1 := by rw [← hh]; simp
  clear hh
  have hsg0 := hs_g0
  refine S_as rfl ?_
  refine S_nil (hK2 _ _ (V_keep [5] (by simp only [proj, lk, reduceIte, Nat.reduceEqDiff]; rfl) ?_)); clear hK2
  refine V_sr T.mix (by kernel_rfl) (fun K3 hK3 => ?_)
  refine S_mv rfl ?_
  refine S_mk T.ei55 rfl rfl (by omega) (by omega) (by omega) (by omega) ?_
  rw [show ((1200 : Int)).toNat = 1200 from rfl, Nat.mul_one, mkZ_one]
  generalize hh : Array.push g0 _ = m1
  have ba1 : B m1 g0.size (arr 1200 fun j => .int .u8 ((fun _ => 0 : Nat → Int) j)) 5 := by rw [← hh]; exact B.new _ _ _
  have hEm1 : Ext (fun _ => False) g0 m1 := by rw [← hh]; exact Ext.push _ _ _
  have hsm1 : m1.size = g0.size + 1 := by rw [← hh]; simp
  clear hh
  have bs1 := bt0.ext hEm1 (fun f => f)
  try clear hokN
  have hokN : ∀ j, j < 7 → okPut m1 ⟨h.size, j, none⟩ = true := fun j hj => bs1.ok (by simpa using hj)
  rw [show g0.size = h.size + 1 by omega] at ba1
  rw [show g0.size = h.size + 1 by omega]
  refine S_nc rfl ?_
  first | refine S_fa0 T.f59_2 rfl ?_ | refine S_fa T.f59_2 rfl ?_
  refine S_st T.sz55 rfl rfl rfl rfl (by simp (disch := omega) only [hokN]) ?_
  generalize hh : putH _ _ _ = g1
  have bt1 : B g1 h.size #[.pointer (some ⟨K, 0, none⟩), .pointer (some ⟨D, 0, none⟩), .slice (some ⟨h.size + 1, 0, none⟩) 1200 1200, .int .i64 0, .slice none 0 0, .slice none 0 0, .slice none 0 0] 59 := by rw [← hh]; exact (bs1.put 2 _).cong (by simp)
  have hEg1 : Ext (fun b => b = h.size) m1 g1 := by rw [← hh]; exact Ext.put _ _ rfl
  have hsg1 : g1.size = m1.size := by rw [← hh]; exact size_put _ _
  clear hh
  refine S_nil (hK3 _ _ (V_keep [5] (by simp only [proj, lk, reduceIte, Nat.reduceEqDiff]; rfl) ?_)); clear hK3
  refine V_sr T.mix (by kernel_rfl) (fun K4 hK4 => ?_)
  refine S_mv rfl ?_
  refine S_mk T.ei56 rfl rfl (by omega) (by omega) (by omega) (by omega) ?_
  rw [show ((4 : Int)).toNat = 4 from rfl, Nat.mul_one, mkZ_one]
  generalize hh : Array.push g1 _ = m2
  have ba2 : B m2 g1.size (ia 4 (fun _ => 0)) 3 := by rw [← hh]; exact B.new _ _ _
  have hEm2 : Ext (fun _ => False) g1 m2 := by rw [← hh]; exact Ext.push _ _ _
  have hsm2 : m2.size = g1.size + 1 := by rw [← hh]; simp
  clear hh
  have bs2 := bt1.ext hEm2 (fun f => f)
  try clear hokN
  have hokN : ∀ j, j < 7 → okPut m2 ⟨h.size, j, none⟩ = true := fun j hj => bs2.ok (by simpa using hj)
  rw [show g1.size = h.size + 2 by omega] at ba2
  rw [show g1.size = h.size + 2 by omega]
  refine S_nc rfl ?_
  first | refine S_fa0 T.f59_4 rfl ?_ | refine S_fa T.f59_4 rfl ?_
  refine S_st T.sz56 rfl rfl rfl rfl (by simp (disch := omega) only [hokN]) ?_
  generalize hh : putH _ _ _ = g2
  have bt2 : B g2 h.size #[.pointer (some ⟨K, 0, none⟩), .pointer (some ⟨D, 0, none⟩), .slice (some ⟨h.size + 1, 0, none⟩) 1200 1200, .int .i64 0, .slice (some ⟨h.size + 2, 0, none⟩) 4 4, .slice none 0 0, .slice none 0 0] 59 := by rw [← hh]; exact (bs2.put 4 _).cong (by simp)
  have hEg2 : Ext (fun b => b = h.size) m2 g2 := by rw [← hh]; exact Ext.put _ _ rfl
  have hsg2 : g2.size = m2.size := by rw [← hh]; exact size_put _ _
  clear hh
  refine S_nil (hK4 _ _ (V_keep [5] (by simp only [proj, lk, reduceIte, Nat.reduceEqDiff]; rfl) ?_)); clear hK4
  refine V_sr T.mix (by kernel_rfl) (fun K5 hK5 => ?_)
  refine S_mv rfl ?_
  refine S_mk T.ei57 rfl rfl (by omega) (by omega) (by omega) (by omega) ?_
  rw [show ((4 : Int)).toNat * 5 = 20 from rfl, mkZ_5]
  generalize hh : Array.push g2 _ = m3
  have ba3 : B m3 g2.size (ia 20 (fun _ => 0)) 128 := by rw [← hh]; exact B.new _ _ _
  have hEm3 : Ext (fun _ => False) g2 m3 := by rw [← hh]; exact Ext.push _ _ _
  have hsm3 : m3.size = g2.size + 1 := by rw [← hh]; simp
  clear hh
  have bs3 := bt2.ext hEm3 (fun f => f)
  try clear hokN
  have hokN : ∀ j, j < 7 → okPut m3 ⟨h.size, j, none⟩ = true := fun j hj => bs3.ok (by simpa using hj)
  rw [show g2.size = h.size + 3 by omega] at ba3
  rw [show g2.size = h.size + 3 by omega]
  refine S_nc rfl ?_
  first | refine S_fa0 T.f59_5 rfl ?_ | refine S_fa T.f59_5 rfl ?_
  refine S_st T.sz57 rfl rfl rfl rfl (by simp (disch := omega) only [hokN]) ?_
  generalize hh : putH _ _ _ = g3
  have bt3 : B g3 h.size #[.pointer (some ⟨K, 0, none⟩), .pointer (some ⟨D, 0, none⟩), .slice (some ⟨h.size + 1, 0, none⟩) 1200 1200, .int .i64 0, .slice (some ⟨h.size + 2, 0, none⟩) 4 4, .slice (some ⟨h.size + 3, 0, none⟩) 4 4, .slice none 0 0] 59 := by rw [← hh]; exact (bs3.put 5 _).cong (by simp)
  have hEg3 : Ext (fun b => b = h.size) m3 g3 := by rw [← hh]; exact Ext.put _ _ rfl
  have hsg3 : g3.size = m3.size := by rw [← hh]; exact size_put _ _
  clear hh
  refine S_nil (hK5 _ _ (V_keep [5] (by simp only [proj, lk, reduceIte, Nat.reduceEqDiff]; rfl) ?_)); clear hK5
  refine V_sr T.mix (by kernel_rfl) (fun K6 hK6 => ?_)
  refine S_mv rfl ?_
  refine S_mk T.ei55 rfl rfl (by omega) (by omega) (by omega) (by omega) ?_
  rw [show ((256 : Int)).toNat = 256 from rfl, Nat.mul_one, mkZ_one]
  generalize hh : Array.push g3 _ = m4
  have ba4 : B m4 g3.size (arr 256 fun j => .int .u8 ((fun _ => 0 : Nat → Int) j)) 5 := by rw [← hh]; exact B.new _ _ _
  have hEm4 : Ext (fun _ => False) g3 m4 := by rw [← hh]; exact Ext.push _ _ _
  have hsm4 : m4.size = g3.size + 1 := by rw [← hh]; simp
  clear hh
  have bs4 := bt3.ext hEm4 (fun f => f)
  try clear hokN
  have hokN : ∀ j, j < 7 → okPut m4 ⟨h.size, j, none⟩ = true := fun j hj => bs4.ok (by simpa using hj)
  rw [show g3.size = h.size + 4 by omega] at ba4
  rw [show g3.size = h.size + 4 by omega]
  refine S_nc rfl ?_
  first | refine S_fa0 T.f59_6 rfl ?_ | refine S_fa T.f59_6 rfl ?_
  refine S_st T.sz55 rfl rfl rfl rfl (by simp (disch := omega) only [hokN]) ?_
  generalize hh : putH _ _ _ = g4
  have bt4 : B g4 h.size #[.pointer (some ⟨K, 0, none⟩), .pointer (some ⟨D, 0, none⟩), .slice (some ⟨h.size + 1, 0, none⟩) 1200 1200, .int .i64 0, .slice (some ⟨h.size + 2, 0, none⟩) 4 4, .slice (some ⟨h.size + 3, 0, none⟩) 4 4, .slice (some ⟨h.size + 4, 0, none⟩) 256 256] 59 := by rw [← hh]; exact (bs4.put 6 _).cong (by simp)
  have hEg4 : Ext (fun b => b = h.size) m4 g4 := by rw [← hh]; exact Ext.put _ _ rfl
  have hsg4 : g4.size = m4.size := by rw [← hh]; exact size_put _ _
  clear hh
  refine S_nil (hK6 _ _ (V_keep [5] (by simp only [proj, lk, reduceIte, Nat.reduceEqDiff]; rfl) ?_)); clear hK6
  refine V_sr T.mix (by kernel_rfl) (fun K7 hK7 => ?_)
  refine S_mv rfl ?_
  refine S_as rfl ?_
  refine S_nil (hK7 _ _ (V_keep [4] (by simp only [proj, lk, reduceIte, Nat.reduceEqDiff]; rfl) ?_)); clear hK7
  refine V_ret ?_
  refine hR _ _ (ret1 rfl rfl ?_)
  exact ⟨rfl, ⟨by simp, fun _ => 0, ⟨bt4, ((((((ba1.ext hEg1 (fun e => by omega)).ext hEm2 (fun f => f)).ext hEg2 (fun e => by omega)).ext hEm3 (fun f => f)).ext hEg3 (fun e => by omega)).ext hEm4 (fun f => f)).ext hEg4 (fun e => by omega), ((((ba2.ext hEg2 (fun e => by omega)).ext hEm3 (fun f => f)).ext hEg3 (fun e => by omega)).ext hEm4 (fun f => f)).ext hEg4 (fun e => by omega), ((ba3.ext hEg3 (fun e => by omega)).ext hEm4 (fun f => f)).ext hEg4 (fun e => by omega), ba4.ext hEg4 (fun e => by omega)⟩, fun j hj => absurd hj (Nat.not_lt_zero _)⟩, ((((((((hEg0).trans hEm1).step hEg1 (fun b hb e => by omega)).trans hEm2).step hEg2 (fun b hb e => by omega)).trans hEm3).step hEg3 (fun b hb e => by omega)).trans hEm4).step hEg4 (fun b hb e => by omega), by omega⟩
end Go.Proofs.Qxb6500404aGreat
