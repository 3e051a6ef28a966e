import Derived.Test.Qxb6500401aGreatNc
set_option linter.unusedVariables false
set_option linter.unusedSimpArgs false
namespace Go.Proofs.Qxb6500401aGreat
open Go.Eng Go.Trl Go.Chk Go.Wat Go.Cnf

structure CF where
  D : Nat
  V : Nat
  P : Nat
  X : Nat
  C : Nat
  K : Nat
  Sv : Nat
  M : Nat
  KC : Nat
  N : Nat
  base : Nat
def pv (b : Nat) : Value := .pointer (some ⟨b, 0, none⟩)
def wcs (c : CF) (txt : ByteArray) (ma : Option Addr) (n mc : Nat) : Array Value := #[.pointer (some ⟨c.P, 0, none⟩), .pointer (some ⟨c.X, 0, none⟩), .pointer (some ⟨c.C, 0, none⟩), .pointer (some ⟨c.K, 0, none⟩), .pointer (some ⟨c.V, 0, none⟩), .pointer (some ⟨c.Sv, 0, none⟩), .pointer (some ⟨c.KC, 0, none⟩), .string txt, .slice ma n mc]
def kvs (l : List (Option Addr)) : List Value := l.map fun a => .slice a 12 12
theorem kvs_len (l : List (Option Addr)) : (kvs l).length = l.length := by simp [kvs]
theorem kvs_one (l : List (Option Addr)) : ∀ v ∈ kvs l, v.oneCell' = true := by intro v hv; simp only [kvs, List.mem_map] at hv; obtain ⟨q, _, rfl⟩ := hv; rfl
def stmp : List Int := List.replicate 12 (-4040404)
structure Ord (c : CF) : Prop where
  o : c.base ≤ c.P ∧ c.P < c.X ∧ c.X < c.C ∧ c.C < c.K ∧ c.K < c.V ∧ c.V < c.M ∧ c.M < c.Sv ∧ c.Sv < c.N ∧ c.N < c.KC ∧ c.KC < c.D
/-- the walk's world -/
structure LW (h : Heap) (c : CF) (la : Option Addr) (lc : Nat) (Q : SR) (W : WC) (cl : Nat → Option (List Int)) (s : TS) (p : Nat) (pa : Option Addr) (pc : Nat) (txt : ByteArray) (ma : Option Addr) (mc : Nat) (mine : List (Option Addr)) : Prop where
  od : Ord c
  dd : B h c.D (wcs c txt ma mine.length mc) 40
  gs : GS h c.V c.P c.X c.C c.K la lc Q W cl s p pa pc
  sv : B h c.Sv #[.pointer (some ⟨c.M, 0, none⟩)] 70
  mm : ∃ u w : Int, B h c.M #[.int .i64 u, .int .i64 w] 109
  km : ChkW.KM h c.KC c.N
  mi : OwnR 0 h ma mine.length mc (kvs mine) 49 1
  ml : mine.length ≤ 16
  kp : ∀ a ∈ mine, IL h a 12 stmp ∧ ∀ z, blkA a = some z → c.D < z ∧ blkA la ≠ some z ∧ blkA pa ≠ some z ∧ blkA ma ≠ some z
  hla : ∀ z, blkA la = some z → c.D < z
  hpa : ∀ z, blkA pa = some z → c.D < z
  hma : ∀ z, blkA ma = some z → c.D < z ∧ blkA la ≠ some z ∧ blkA pa ≠ some z
section lw
variable {h h' : Heap} {c : CF} {la : Option Addr} {lc : Nat} {Q : SR} {W : WC} {cl : Nat → Option (List Int)} {s : TS} {p : Nat} {pa : Option Addr} {pc : Nat} {txt : ByteArray} {ma : Option Addr} {mc : Nat} {mine : List (Option Addr)}
theorem GS.far {V P X C K : Nat} {S : Nat → Prop} (g : GS h V P X C K la lc Q W cl s p pa pc) (he : Ext S h h') (h1 : ¬ S V) (h2 : ¬ S X) (h3 : ¬ S C) (h4 : ¬ S K) (h5 : ¬ S P) (h6 : ∀ z, blkA la = some z → ¬ S z) (h7 : ∀ z, blkA pa = some z → ¬ S z) : GS h' V P X C K la lc Q W cl s p pa pc :=
  ⟨g.sx.far he h1 h2 h3 h4 h6, g.pr.ext he h5 h7, g.qi, g.pn, g.an⟩
theorem LW.far (w : LW h c la lc Q W cl s p pa pc txt ma mc mine) {S : Nat → Prop} (he : Ext S h h') (hf : ∀ z, c.base ≤ z → z ≤ c.D → ¬ S z) (h6 : ∀ z, blkA la = some z → ¬ S z) (h7 : ∀ z, blkA pa = some z → ¬ S z) (h8 : ∀ z, blkA ma = some z → ¬ S z) (h9 : ∀ a ∈ mine, ∀ z, blkA a = some z → ¬ S z) : LW h' c la lc Q W cl s p pa pc txt ma mc mine := by
  obtain ⟨o1, o2, o3, o4, o5, o6, o7, o8, o9, o10⟩ := w.od.o
  obtain ⟨u, w2, hm⟩ := w.mm
  exact ⟨w.od, w.dd.ext he (hf _ (by omega) (by omega)), w.gs.far he (hf _ (by omega) (by omega)) (hf _ (by omega) (by omega)) (hf _ (by omega) (by omega)) (hf _ (by omega) (by omega)) (hf _ (by omega) (by omega)) h6 h7, w.sv.ext he (hf _ (by omega) (by omega)), ⟨u, w2, hm.ext he (hf _ (by omega) (by omega))⟩, w.km.ext he (hf _ (by omega) (by omega)) (hf _ (by omega) (by omega)), OwnR.ext w.mi he (fun b e => h8 b (by rw [e]; rfl)), w.ml, fun a ha => ⟨(w.kp a ha).1.ext he (fun b e => h9 a ha b e), (w.kp a ha).2⟩, w.hla, w.hpa, w.hma⟩
theorem LW.new (w : LW h c la lc Q W cl s p pa pc txt ma mc mine) (he : Ext (fun _ => False) h h') : LW h' c la lc Q W cl s p pa pc txt ma mc mine := w.far he (fun _ _ _ f => f) (fun _ _ f => f) (fun _ _ f => f) (fun _ _ f => f) (fun _ _ _ _ f => f)
theorem LW.model (w : LW h c la lc Q W cl s p pa pc txt ma mc mine) (he : Ext (fun z => z = c.M) h h') (hm : ∃ u w : Int, B h' c.M #[.int .i64 u, .int .i64 w] 109) : LW h' c la lc Q W cl s p pa pc txt ma mc mine := by
  obtain ⟨o1, o2, o3, o4, o5, o6, o7, o8, o9, o10⟩ := w.od.o
  have hl : ∀ z, c.D < z → ¬ z = c.M := fun z hz => by omega
  exact ⟨w.od, w.dd.ext he (by omega), w.gs.far he (by omega) (by omega) (by omega) (by omega) (by omega) (fun z e => hl z (w.hla z e)) (fun z e => hl z (w.hpa z e)), w.sv.ext he (by omega), hm, w.km.ext he (by omega) (by omega), OwnR.ext w.mi he (fun b e => hl b (w.hma b (by rw [e]; rfl)).1), w.ml, fun a ha => ⟨(w.kp a ha).1.ext he (fun b e => hl b ((w.kp a ha).2 b e).1), (w.kp a ha).2⟩, w.hla, w.hpa, w.hma⟩
theorem LW.chk (w : LW h c la lc Q W cl s p pa pc txt ma mc mine) (he : Ext (fun z => z = c.N) h h') (hm : ChkW.KM h' c.KC c.N) : LW h' c la lc Q W cl s p pa pc txt ma mc mine := by
  obtain ⟨o1, o2, o3, o4, o5, o6, o7, o8, o9, o10⟩ := w.od.o
  have hl : ∀ z, c.D < z → ¬ z = c.N := fun z hz => by omega
  obtain ⟨u, w2, hmm⟩ := w.mm
  exact ⟨w.od, w.dd.ext he (by omega), w.gs.far he (by omega) (by omega) (by omega) (by omega) (by omega) (fun z e => hl z (w.hla z e)) (fun z e => hl z (w.hpa z e)), w.sv.ext he (by omega), ⟨u, w2, hmm.ext he (by omega)⟩, hm, OwnR.ext w.mi he (fun b e => hl b (w.hma b (by rw [e]; rfl)).1), w.ml, fun a ha => ⟨(w.kp a ha).1.ext he (fun b e => hl b ((w.kp a ha).2 b e).1), (w.kp a ha).2⟩, w.hla, w.hpa, w.hma⟩
theorem LW.desk {txt' : ByteArray} (w : LW h c la lc Q W cl s p pa pc txt ma mc mine) (he : Ext (fun z => z = c.D) h h') (hd : B h' c.D (wcs c txt' ma mine.length mc) 40) : LW h' c la lc Q W cl s p pa pc txt' ma mc mine := by
  obtain ⟨o1, o2, o3, o4, o5, o6, o7, o8, o9, o10⟩ := w.od.o
  have hl : ∀ z, c.D < z → ¬ z = c.D := fun z hz => by omega
  obtain ⟨u, w2, hmm⟩ := w.mm
  exact ⟨w.od, hd, w.gs.far he (by omega) (by omega) (by omega) (by omega) (by omega) (fun z e => hl z (w.hla z e)) (fun z e => hl z (w.hpa z e)), w.sv.ext he (by omega), ⟨u, w2, hmm.ext he (by omega)⟩, w.km.ext he (by omega) (by omega), OwnR.ext w.mi he (fun b e => hl b (w.hma b (by rw [e]; rfl)).1), w.ml, fun a ha => ⟨(w.kp a ha).1.ext he (fun b e => hl b ((w.kp a ha).2 b e).1), (w.kp a ha).2⟩, w.hla, w.hpa, w.hma⟩
theorem LW.lt (w : LW h c la lc Q W cl s p pa pc txt ma mc mine) : c.D < h.size := w.dd.lt
theorem LW.solved {la' : Option Addr} {lc' : Nat} {Q' : SR} {W' : WC} {cl' : Nat → Option (List Int)} {s' : TS} {p' : Nat} {pa' : Option Addr} {pc' : Nat} (w : LW h c la lc Q W cl s p pa pc txt ma mc mine) (g : GS h' c.V c.P c.X c.C c.K la' lc' Q' W' cl' s' p' pa' pc') (gx : GEx c.V c.P c.X c.C c.K h h' la la' pa pa') : LW h' c la' lc' Q' W' cl' s' p' pa' pc' txt ma mc mine := by
  obtain ⟨o1, o2, o3, o4, o5, o6, o7, o8, o9, o10⟩ := w.od.o
  obtain ⟨u, w2, hmm⟩ := w.mm
  have hD := w.lt
  have hl1 : ∀ z, c.V < z → z ≤ c.D → ¬ (z = c.V ∨ z = c.X ∨ z = c.C ∨ z = c.K ∨ z = c.P ∨ blkA la = some z ∨ blkA pa = some z) := fun z h1 h2 f => by
    rcases f with f | f | f | f | f | f | f
    · omega
    · omega
    · omega
    · omega
    · omega
    · have := w.hla z f; omega
    · have := w.hpa z f; omega
  have hl2 : ∀ z, c.D < z → blkA la ≠ some z → blkA pa ≠ some z → ¬ (z = c.V ∨ z = c.X ∨ z = c.C ∨ z = c.K ∨ z = c.P ∨ blkA la = some z ∨ blkA pa = some z) := fun z h1 h2 h3 f => by
    rcases f with f | f | f | f | f | f | f
    · omega
    · omega
    · omega
    · omega
    · omega
    · exact h2 f
    · exact h3 f
  have hn1 : ∀ z, z < h.size → blkA la ≠ some z → blkA la' ≠ some z := fun z hz h1 f => by
    rcases gx.2.1 z f with q | q
    · exact h1 q
    · omega
  have hn2 : ∀ z, z < h.size → blkA pa ≠ some z → blkA pa' ≠ some z := fun z hz h1 f => by
    rcases gx.2.2 z f with q | q
    · exact h1 q
    · omega
  refine ⟨w.od, w.dd.ext gx.1 (hl1 _ (by omega) (by omega)), g, w.sv.ext gx.1 (hl1 _ (by omega) (by omega)), ⟨u, w2, hmm.ext gx.1 (hl1 _ (by omega) (by omega))⟩, w.km.ext gx.1 (hl1 _ (by omega) (by omega)) (hl1 _ (by omega) (by omega)), OwnR.ext w.mi gx.1 (fun b e => ?_), w.ml, fun a ha => ⟨(w.kp a ha).1.ext gx.1 (fun b e => ?_), fun z e => ?_⟩, fun z e => ?_, fun z e => ?_, fun z e => ?_⟩
  · have := w.hma b (by rw [e]; rfl); exact hl2 b this.1 this.2.1 this.2.2
  · have := (w.kp a ha).2 b e; exact hl2 b this.1 this.2.1 this.2.2.1
  · have := (w.kp a ha).2 z e
    have hz := (w.kp a ha).1.lt e
    exact ⟨this.1, hn1 z hz this.2.1, hn2 z hz this.2.2.1, this.2.2.2⟩
  · rcases gx.2.1 z e with q | q
    · exact w.hla z q
    · omega
  · rcases gx.2.2 z e with q | q
    · exact w.hpa z q
    · omega
  · have := w.hma z e
    have hz := (OwnR.blk2 w.mi e).2
    exact ⟨this.1, hn1 z hz this.2.1, hn2 z hz this.2.2⟩
end lw
theorem dq {h : Heap} {c : CF} {txt : ByteArray} {ma : Option Addr} {n mc : Nat} {t : TypeId} (hB : B h c.D (wcs c txt ma n mc) t) : cellH h ⟨c.D, 0, none⟩ = some (.pointer (some ⟨c.P, 0, none⟩)) ∧ cellH h ⟨c.D, 1, none⟩ = some (.pointer (some ⟨c.X, 0, none⟩)) ∧ cellH h ⟨c.D, 2, none⟩ = some (.pointer (some ⟨c.C, 0, none⟩)) ∧ cellH h ⟨c.D, 3, none⟩ = some (.pointer (some ⟨c.K, 0, none⟩)) ∧ cellH h ⟨c.D, 4, none⟩ = some (.pointer (some ⟨c.V, 0, none⟩)) ∧ cellH h ⟨c.D, 5, none⟩ = some (.pointer (some ⟨c.Sv, 0, none⟩)) ∧ cellH h ⟨c.D, 6, none⟩ = some (.pointer (some ⟨c.KC, 0, none⟩)) ∧ cellH h ⟨c.D, 7, none⟩ = some (.string txt) ∧ cellH h ⟨c.D, 8, none⟩ = some (.slice ma n mc) ∧ ∀ j, j < 9 → okPut h ⟨c.D, j, none⟩ = true :=
  ⟨hB.cell 0, hB.cell 1, hB.cell 2, hB.cell 3, hB.cell 4, hB.cell 5, hB.cell 6, hB.cell 7, hB.cell 8, fun j hj => hB.ok (by simpa [wcs] using hj)⟩
theorem mi_get {h : Heap} {ma : Option Addr} {mc : Nat} {mine : List (Option Addr)} (mi : OwnR 0 h ma mine.length mc (kvs mine) 49 1) (hl : 0 < mine.length) : ∃ b, ma = some ⟨b, 0, none⟩ ∧ b < h.size ∧ ∀ j, j < mine.length → cellH h ⟨b, j, none⟩ = some (.slice (mine.getD j none) 12 12) := by
  obtain ⟨b, h1, _, h2, h3, _⟩ := OwnR.some mi hl
  refine ⟨b, h1, h2, fun j hj => ?_⟩
  rw [h3 j (by rw [kvs_len]; exact hj)]; simp [kvs, hj]
theorem mmem {l : List (Option Addr)} {j : Nat} (h : j < l.length) : l.getD j none ∈ l := by
  rw [List.getD_eq_getElem?_getD, List.getElem?_eq_getElem h]; simp
theorem rep_at (n j : Nat) (x : Int) (h : j < n) : (List.replicate n x).getD j 0 = x := by simp [h]
theorem stmp_at {j : Nat} (h : j < 12) : stmp.getD j 0 = (-4040404) := rep_at 12 j _ h
theorem stmp_len : stmp.length = 12 := by simp [stmp]

theorem OwnR.putv {lo : Nat} {h : Heap} {b k cap : Nat} {xs : List Value} {e : TypeId} (ho : OwnR lo h (some ⟨b, 0, none⟩) k cap xs e 1) (i : Nat) (v : Value) : OwnR lo (putH h ⟨b, i, none⟩ v) (some ⟨b, 0, none⟩) k cap (xs.set i v) e 1 := by
  rcases ho with ⟨h1, _⟩ | ⟨b2, cs, h1, h2, h3, h4, h5, h6, h7⟩
  · cases h1
  · cases h1
    refine .inr ⟨b, cs.setIfInBounds i v, rfl, h2, h3.put i v, by rw [Array.size_setIfInBounds]; exact h4, h5, by rw [List.length_set]; exact h6, fun j hj => ?_⟩
    rw [List.length_set] at hj
    have hcs : j < cs.size := by omega
    rw [Array.getElem?_setIfInBounds, List.getElem?_set]
    by_cases e : i = j
    · subst e; simp [hcs, hj]
    · simp [e]; rw [h7 j hj]
theorem IL.put {h : Heap} {b cap : Nat} {l : List Int} (ho : IL h (some ⟨b, 0, none⟩) cap l) (i : Nat) (x : Int) : IL (putH h ⟨b, i, none⟩ (.int .i64 x)) (some ⟨b, 0, none⟩) cap (l.set i x) := by
  have := OwnR.putv ho i (.int .i64 x)
  unfold IL ints at *
  rw [List.length_set, List.map_set]; exact this
theorem sliceV_one {P : Program} {t : TypeId} {z : Nat} {b n cap : Nat} {k : IntKind} (hz : elS P t = some z) (h1 : 2 ≤ n) (h2 : n ≤ cap) : sliceV P t (.slice (some ⟨b, 0, none⟩) n cap) (some (.int k 1)) none = some (.slice (some ⟨b, 1 * z, none⟩) (n - 1) (cap - 1)) := by
  simp only [sliceV, hz, loV]
  rw [if_pos ⟨by omega, by omega, by omega⟩, if_neg (by simp; omega)]
  simp [add_mk]
theorem srcV_one {lo : Nat} {h : Heap} {b k cap c : Nat} {xs : List Value} {e : TypeId} (ho : OwnR lo h (some ⟨b, 0, none⟩) k cap xs e 1) (hk : 1 ≤ k) : srcV h 1 (k - 1) (.slice (some ⟨b, 1 * 1, none⟩) (k - 1) c) = some (xs.drop 1) := by
  rcases ho with ⟨h1, _⟩ | ⟨b2, cs, h1, h2, h3, h4, h5, h6, h7⟩
  · cases h1
  · cases h1
    simp only [srcV]
    rw [cellsH_blk (o := 1 * 1) h3 ((k - 1) * 1) 0 (by omega)]
    congr 1
    apply List.ext_getElem?
    intro j
    simp only [Nat.add_zero, List.getElem?_take, Nat.mul_one]
    by_cases hj : j < k - 1
    · rw [if_pos hj, List.getElem?_drop, List.getElem?_drop, ← h7 (1 + j) (by omega)]; simp
    · rw [if_neg hj, List.getElem?_eq_none (by simp; omega)]
/-! ### the world -/
structure UA where
  base : Nat
  U : Nat
  C : Nat
  X : Nat
  M : Nat
  Y : Nat
structure US where
  W : WC
  mm : MC
  cl : Nat → Option (List Int)
  s : TS
  p : Nat
  G : Nat → Prop
  F : Nat → Prop
  ra : Option Addr
  rc : Nat
  rg : List Int
  ma : Option Addr
  mc : Nat
  mine : List (Option Addr × Nat)
  V : Nat
  kn : Bool

theorem stamp_set (xs : List Int) {i : Nat} (h : i < xs.length) : (List.replicate i ((-4040404) : Int) ++ xs.drop i).set i (-4040404) = List.replicate (i + 1) (-4040404) ++ xs.drop (i + 1) := by
  rw [List.set_append, if_neg (by simp), drop_cons xs i h]
  simp [List.replicate_succ', List.append_assoc]
theorem kvs_drop (l : List (Option Addr)) : kvs (l.drop 1) = (kvs l).drop 1 := by simp [kvs]
theorem kvs_snoc (l : List (Option Addr)) (a : Option Addr) : kvs (l ++ [a]) = kvs l ++ [.slice a 12 12] := by simp [kvs]
theorem LW.mined {h h' : Heap} {c : CF} {la : Option Addr} {lc : Nat} {Q : SR} {W : WC} {cl : Nat → Option (List Int)} {s : TS} {p : Nat} {pa : Option Addr} {pc : Nat} {txt : ByteArray} {ma ma' : Option Addr} {mc mc' : Nat} {mine mine' : List (Option Addr)} (w : LW h c la lc Q W cl s p pa pc txt ma mc mine) (he : Ext (fun z => z = c.D ∨ blkA ma = some z) h h') (hd : B h' c.D (wcs c txt ma' mine'.length mc') 40) (ho : OwnR 0 h' ma' mine'.length mc' (kvs mine') 49 1) (hb : ∀ z, blkA ma' = some z → blkA ma = some z ∨ h.size ≤ z) (hml : mine'.length ≤ 16) (hk : ∀ a ∈ mine', a ∈ mine ∨ (IL h a 12 stmp ∧ ∀ z, blkA a = some z → c.D < z ∧ blkA la ≠ some z ∧ blkA pa ≠ some z ∧ blkA ma ≠ some z)) : LW h' c la lc Q W cl s p pa pc txt ma' mc' mine' := by
  obtain ⟨o1, o2, o3, o4, o5, o6, o7, o8, o9, o10⟩ := w.od.o
  have hD := w.lt
  have nl : ∀ z, c.base ≤ z → z < c.D → ¬ (z = c.D ∨ blkA ma = some z) := fun z _ h2 f => by
    rcases f with f | f
    · omega
    · have := w.hma z f; omega
  have nl2 : ∀ z, c.D < z → blkA ma ≠ some z → ¬ (z = c.D ∨ blkA ma = some z) := fun z h1 h2 f => by
    rcases f with f | f
    · omega
    · exact h2 f
  have hk2 : ∀ a ∈ mine', IL h a 12 stmp ∧ ∀ z, blkA a = some z → c.D < z ∧ blkA la ≠ some z ∧ blkA pa ≠ some z ∧ blkA ma ≠ some z := fun a ha => by
    rcases hk a ha with q | q
    · exact w.kp a q
    · exact q
  obtain ⟨u, w2, hmm⟩ := w.mm
  refine ⟨w.od, hd, w.gs.far he (nl _ (by omega) (by omega)) (nl _ (by omega) (by omega)) (nl _ (by omega) (by omega)) (nl _ (by omega) (by omega)) (nl _ (by omega) (by omega)) (fun z e f => ?_) (fun z e f => ?_), w.sv.ext he (nl _ (by omega) (by omega)), ⟨u, w2, hmm.ext he (nl _ (by omega) (by omega))⟩, w.km.ext he (nl _ (by omega) (by omega)) (nl _ (by omega) (by omega)), ho, hml, fun a ha => ⟨(hk2 a ha).1.ext he (fun b e => nl2 b ((hk2 a ha).2 b e).1 ((hk2 a ha).2 b e).2.2.2), fun z e => ?_⟩, w.hla, w.hpa, fun z e => ?_⟩
  · rcases f with f | f
    · have := w.hla z e; omega
    · exact (w.hma z f).2.1 e
  · rcases f with f | f
    · have := w.hpa z e; omega
    · exact (w.hma z f).2.2 e
  · have q := (hk2 a ha).2 z e
    refine ⟨q.1, q.2.1, q.2.2.1, fun f => ?_⟩
    rcases hb z f with r | r
    · exact q.2.2.2 r
    · have := (hk2 a ha).1.lt e; omega
  · rcases hb z e with r | r
    · exact w.hma z r
    · refine ⟨by omega, fun f => ?_, fun f => ?_⟩
      · have := (OwnR.blk2 w.gs.sx.lo f).2; omega
      · have := (OwnR.blk2 w.gs.pr.ar f).2; omega
set_option maxHeartbeats 400000 in
theorem untouched_spec (h : Heap) (c : CF) (la : Option Addr) (lc : Nat) (Q : SR) (W : WC) (cl : Nat → Option (List Int)) (s : TS) (p : Nat) (pa : Option Addr) (pc : Nat) (txt : ByteArray) (ma : Option Addr) (mc : Nat) (mine : List (Option Addr)) (w : LW h c la lc Q W cl s p pa pc txt ma mc mine) :
    FC Tryz.prog 10 (#[.pointer (some ⟨c.D, 0, none⟩)] : Array Value) h fun rv h' => rv = .bool true ∧ h = h' := by
  try clear d0 d1 d2 d3 d4 d5 d6 d7 d8 dok
  obtain ⟨d0, d1, d2, d3, d4, d5, d6, d7, d8, dok⟩ := dq (w.dd)
  have hml := w.ml
  obtain ⟨hcl_, hat⟩ : True ∧ True := ⟨trivial, trivial⟩
  refine FC_of [(0, .pointer (some ⟨c.D, 0, none⟩))] Tryz.func10 rfl Tryz.ntmps10 (by simp) rfl (fun R hR => ?_)
  refine V_sr T.mix (by kernel_rfl) (fun K1 hK1 => ?_)
  refine S_as rfl ?_
  refine S_nil (hK1 _ _ (V_keep [0] (by simp only [proj, lk, reduceIte, Nat.reduceEqDiff]; rfl) ?_)); clear hK1
  refine V_seq (fun K2 hK2 => ?_)
  refine V_sr T.mix (by kernel_rfl) (fun K3 hK3 => ?_)
  refine S_as rfl ?_
  refine S_nil (hK3 _ _ (V_keep [0, 3] (by simp only [proj, lk, reduceIte, Nat.reduceEqDiff]; rfl) ?_)); clear hK3
  refine V_block ?_
  refine V_loop (fun m l h' => ∃ (j : Nat), (j ≤ mine.length) ∧ m = mine.length - j ∧ l = [(0, .pointer (some ⟨c.D, 0, none⟩)), (3, .int .i64 (j : Int))] ∧ h = h') _ ⟨0, by omega, rfl, rfl, rfl⟩ ?_
  rintro m l h' ⟨j, hj, rfl, rfl, rfl⟩ K4 hK4
  refine V_seq (fun K5 hK5 => ?_)
  refine V_sr T.mix (by kernel_rfl) (fun K6 hK6 => ?_)
  refine S_mv rfl ?_
  refine S_mv rfl ?_
  refine S_nc rfl ?_
  first | refine S_fa0 T.f40_5 rfl ?_ | refine S_fa T.f40_5 rfl ?_
  refine S_ldK T.ag38 rfl (fun K' hK' => ?_)
  simp (disch := omega) only [d8, hcl_, hat, oP_some, Nat.add_zero]
  refine hK' _ ?_; clear hK' K'
  refine S_lenl T.el38 rfl ?_
  refine S_bin rfl rfl rfl ?_
  refine S_nil (hK6 _ _ (V_keep [0, 3, 11] (by simp only [proj, lk, reduceIte, Nat.reduceEqDiff]; rfl) ?_)); clear hK6
  refine V_condp rfl (fun c323 => ?_) (fun c323 => ?_)
  · skip
    obtain ⟨bm, hbm, _, hcm⟩ := mi_get w.mi (show 0 < mine.length by omega)
    subst hbm
    have hcl_ := hcm j (by omega)
    have hkp := (w.kp _ (mmem (show j < mine.length by omega))).1
    refine V_skipk [0, 3] (by simp only [proj, lk, reduceIte, Nat.reduceEqDiff]; rfl) ?_
    refine hK5 _ _ ?_; clear hK5
    refine V_seq (fun K7 hK7 => ?_)
    refine V_block ?_
    refine V_sr T.mix (by kernel_rfl) (fun K8 hK8 => ?_)
    refine S_as rfl ?_
    refine S_nil (hK8 _ _ (V_keep [0, 3, 4] (by simp only [proj, lk, reduceIte, Nat.reduceEqDiff]; rfl) ?_)); clear hK8
    refine V_block ?_
    refine V_loop (fun m l h' => ∃ (i : Nat), (i ≤ 12) ∧ m = 12 - i ∧ l = [(0, .pointer (some ⟨c.D, 0, none⟩)), (3, .int .i64 (j : Int)), (4, .int .i64 (i : Int))] ∧ h = h') _ ⟨0, by omega, rfl, rfl, rfl⟩ ?_
    rintro m l h' ⟨i, hi, rfl, rfl, rfl⟩ K9 hK9
    refine V_seq (fun K10 hK10 => ?_)
    refine V_sr T.mix (by kernel_rfl) (fun K11 hK11 => ?_)
    refine S_mv rfl ?_
    refine S_mv rfl ?_
    refine S_nc rfl ?_
    first | refine S_fa0 T.f40_5 rfl ?_ | refine S_fa T.f40_5 rfl ?_
    refine S_ldK T.ag38 rfl (fun K' hK' => ?_)
    simp (disch := omega) only [d8, hcl_, hat, oP_some, Nat.add_zero]
    refine hK' _ ?_; clear hK' K'
    refine S_mv rfl ?_
    first | refine S_ixn T.el38 rfl rfl (by omega) ?_ | refine S_ix1 T.el38 rfl rfl (by omega) (by omega) ?_ | refine S_ix T.el38 rfl rfl (by omega) (by omega) ?_
    refine S_ldK T.ag49 rfl (fun K' hK' => ?_)
    simp (disch := omega) only [d8, hcl_, hat, oP_some, Nat.add_zero]
    refine hK' _ ?_; clear hK' K'
    refine S_lenl T.el49 rfl ?_
    refine S_bin rfl rfl rfl ?_
    refine S_nil (hK11 _ _ (V_keep [0, 3, 4, 23] (by simp only [proj, lk, reduceIte, Nat.reduceEqDiff]; rfl) ?_)); clear hK11
    refine V_condp rfl (fun c324 => ?_) (fun c324 => ?_)
    · skip
      obtain ⟨bq, hbq, _, hgq, _⟩ := hkp.get (by rw [stmp_len]; omega)
      rw [hbq] at hcl_
      have hat : cellH h ⟨bq, i, none⟩ = some (.int .i64 (-4040404)) := by rw [hgq i (by rw [stmp_len]; omega), stmp_at (by omega)]
      refine V_skipk [0, 3, 4] (by simp only [proj, lk, reduceIte, Nat.reduceEqDiff]; rfl) ?_
      refine hK10 _ _ ?_; clear hK10
      refine V_seq (fun K12 hK12 => ?_)
      refine V_block ?_
      refine V_sr T.mix (by kernel_rfl) (fun K13 hK13 => ?_)
      refine S_mv rfl ?_
      refine S_nc rfl ?_
      first | refine S_fa0 T.f40_5 rfl ?_ | refine S_fa T.f40_5 rfl ?_
      refine S_ldK T.ag38 rfl (fun K' hK' => ?_)
      simp (disch := omega) only [d8, hcl_, hat, oP_some, Nat.add_zero]
      refine hK' _ ?_; clear hK' K'
      refine S_mv rfl ?_
      first | refine S_ixn T.el38 rfl rfl (by omega) ?_ | refine S_ix1 T.el38 rfl rfl (by omega) (by omega) ?_ | refine S_ix T.el38 rfl rfl (by omega) (by omega) ?_
      refine S_ldK T.ag49 rfl (fun K' hK' => ?_)
      simp (disch := omega) only [d8, hcl_, hat, oP_some, Nat.add_zero]
      refine hK' _ ?_; clear hK' K'
      refine S_mv rfl ?_
      first | refine S_ixn T.el49 rfl rfl (by omega) ?_ | refine S_ix1 T.el49 rfl rfl (by omega) (by omega) ?_ | refine S_ix T.el49 rfl rfl (by omega) (by omega) ?_
      refine S_ldK T.ag3 rfl (fun K' hK' => ?_)
      simp (disch := omega) only [d8, hcl_, hat, oP_some, Nat.add_zero]
      refine hK' _ ?_; clear hK' K'
      refine S_bin rfl rfl rfl ?_
      refine S_nil (hK13 _ _ (V_keep [0, 3, 4, 36] (by simp only [proj, lk, reduceIte, Nat.reduceEqDiff]; rfl) ?_)); clear hK13
      refine V_condp rfl (fun c325 => ?_) (fun c325 => ?_)
      · skip
        exfalso; exact c325 rfl
      · skip
        refine V_skipk [0, 3, 4] (by simp only [proj, lk, reduceIte, Nat.reduceEqDiff]; rfl) ?_
        refine hK12 _ _ ?_; clear hK12
        refine V_reg T.mix (by kernel_rfl) ?_
        refine S_mv rfl ?_
        first | refine S_add rfl rfl (by omega) (by omega) ?_ | refine S_bin rfl rfl rfl ?_
        refine S_as rfl ?_
        refine S_nilk [0, 3, 4] (by simp only [proj, lk, reduceIte, Nat.reduceEqDiff]; rfl) ?_
        exact hK9 _ _ ⟨_, by omega, i + 1, by omega, rfl, rfl, rfl⟩
    · skip
      refine V_exitk [0, 3] rfl (by simp only [proj, lk, reduceIte, Nat.reduceEqDiff]; rfl) ?_
      refine hK7 _ _ ?_; clear hK7
      refine V_reg T.mix (by kernel_rfl) ?_
      refine S_mv rfl ?_
      first | refine S_add rfl rfl (by omega) (by omega) ?_ | refine S_bin rfl rfl rfl ?_
      refine S_as rfl ?_
      refine S_nilk [0, 3] (by simp only [proj, lk, reduceIte, Nat.reduceEqDiff]; rfl) ?_
      exact hK4 _ _ ⟨_, by omega, j + 1, by omega, rfl, rfl, rfl⟩
  · skip
    refine V_exitk [] rfl (by simp only [proj, lk, reduceIte, Nat.reduceEqDiff]; rfl) ?_
    refine hK2 _ _ ?_; clear hK2
    refine V_sr T.mix (by kernel_rfl) (fun K14 hK14 => ?_)
    refine S_as rfl ?_
    refine S_nil (hK14 _ _ (V_keep [2] (by simp only [proj, lk, reduceIte, Nat.reduceEqDiff]; rfl) ?_)); clear hK14
    refine V_ret ?_
    refine hR _ _ (ret1 rfl rfl ?_)
    exact ⟨rfl, rfl⟩
set_option maxHeartbeats 1600000 in
theorem own_spec (h : Heap) (c : CF) (la : Option Addr) (lc : Nat) (Q : SR) (W : WC) (cl : Nat → Option (List Int)) (s : TS) (p : Nat) (pa : Option Addr) (pc : Nat) (txt : ByteArray) (ma : Option Addr) (mc : Nat) (mine : List (Option Addr)) (w : LW h c la lc Q W cl s p pa pc txt ma mc mine) (lx : Option Addr) (xs : List Int) (hx : xs.length = 12) (hI : IL h lx 12 xs) (hcold : ∀ z, blkA lx = some z → c.D < z ∧ blkA la ≠ some z ∧ blkA pa ≠ some z ∧ blkA ma ≠ some z) (hfr : ∀ a ∈ mine, ∀ z, blkA lx = some z → blkA a ≠ some z) :
    FC Tryz.prog 43 (#[.pointer (some ⟨c.D, 0, none⟩), .slice lx 12 12] : Array Value) h fun rv h' => rv = .tuple #[] ∧ ∃ ma' mc' mine', LW h' c la lc Q W cl s p pa pc txt ma' mc' mine' ∧ Ext (fun z => c.D ≤ z) h h' := by
  try clear d0 d1 d2 d3 d4 d5 d6 d7 d8 dok
  obtain ⟨d0, d1, d2, d3, d4, d5, d6, d7, d8, dok⟩ := dq (w.dd)
  have hml := w.ml
  have hD := w.lt
  obtain hok_ : True := trivial
  refine FC_of [(0, .pointer (some ⟨c.D, 0, none⟩)), (1, .slice lx 12 12)] Tryz.func43 rfl Tryz.ntmps43 (by simp) rfl (fun R hR => ?_)
  refine V_seq (fun K1 hK1 => ?_)
  refine V_sr T.mix (by kernel_rfl) (fun K2 hK2 => ?_)
  refine S_as rfl ?_
  refine S_nil (hK2 _ _ (V_keep [0, 1, 4] (by simp only [proj, lk, reduceIte, Nat.reduceEqDiff]; rfl) ?_)); clear hK2
  refine V_block ?_
  refine V_loop (fun m l h' => ∃ (i : Nat) (hk : Heap), (i ≤ 12) ∧ (IL hk lx 12 (List.replicate i (-4040404) ++ xs.drop i)) ∧ (Ext (fun z => blkA lx = some z) h hk) ∧ m = 12 - i ∧ l = [(0, .pointer (some ⟨c.D, 0, none⟩)), (1, .slice lx 12 12), (4, .int .i64 (i : Int))] ∧ hk = h') _ ⟨0, h, by omega, by simpa using hI, Ext.refl _ _, rfl, rfl, rfl⟩ ?_
  rintro m l h' ⟨i, hk, hi, hIk, hEk, rfl, rfl, rfl⟩ K3 hK3
  have hsk := hEk.1
  have wk : LW hk c la lc Q W cl s p pa pc txt ma mc mine := w.far hEk (fun z h1 h2 f => by have h9 := hcold z f; omega) (fun z e f => (hcold z f).2.1 e) (fun z e f => (hcold z f).2.2.1 e) (fun z e f => (hcold z f).2.2.2 e) (fun a ha z e f => hfr a ha z f e)
  try clear d0 d1 d2 d3 d4 d5 d6 d7 d8 dok
  obtain ⟨d0, d1, d2, d3, d4, d5, d6, d7, d8, dok⟩ := dq (wk.dd)
  refine V_seq (fun K4 hK4 => ?_)
  refine V_sr T.mix (by kernel_rfl) (fun K5 hK5 => ?_)
  refine S_mv rfl ?_
  refine S_mv rfl ?_
  refine S_lenl T.el49 rfl ?_
  refine S_bin rfl rfl rfl ?_
  refine S_nil (hK5 _ _ (V_keep [0, 1, 4, 9] (by simp only [proj, lk, reduceIte, Nat.reduceEqDiff]; rfl) ?_)); clear hK5
  refine V_condp rfl (fun c335 => ?_) (fun c335 => ?_)
  · skip
    have hln : (List.replicate i (-4040404 : Int) ++ xs.drop i).length = 12 := by simp; omega
    obtain ⟨ba, hba, ha2, ha3, ha4⟩ := IL.get hIk (by omega)
    have hok_ := ha4 i (by omega)
    subst hba
    refine V_skipk [0, 1, 4] (by simp only [proj, lk, reduceIte, Nat.reduceEqDiff]; rfl) ?_
    refine hK4 _ _ ?_; clear hK4
    refine V_seq (fun K6 hK6 => ?_)
    refine V_block ?_
    refine V_reg T.mix (by kernel_rfl) ?_
    refine S_mv rfl ?_
    refine S_mv rfl ?_
    first | refine S_ixn T.el49 rfl rfl (by omega) ?_ | refine S_ix1 T.el49 rfl rfl (by omega) (by omega) ?_ | refine S_ix T.el49 rfl rfl (by omega) (by omega) ?_
    refine S_st T.sz3 rfl rfl rfl rfl (by simp (disch := omega) only [dok, hok_]) ?_
    generalize hh : putH _ _ _ = h2
    have hI2 : IL h2 (some ⟨ba, 0, none⟩) 12 (List.replicate (i + 1) (-4040404) ++ xs.drop (i + 1)) := by rw [← hh, ← stamp_set xs (by omega)]; exact hIk.put i _
    have hE2 : Ext (fun z => blkA (some (⟨ba, 0, none⟩ : Addr)) = some z) hk h2 := by rw [← hh]; exact Ext.put _ _ rfl
    clear hh
    refine S_nilk [0, 1, 4] (by simp only [proj, lk, reduceIte, Nat.reduceEqDiff]; rfl) ?_
    refine hK6 _ _ ?_; clear hK6
    refine V_reg T.mix (by kernel_rfl) ?_
    refine S_mv rfl ?_
    first | refine S_add rfl rfl (by omega) (by omega) ?_ | refine S_bin rfl rfl rfl ?_
    refine S_as rfl ?_
    refine S_nilk [0, 1, 4] (by simp only [proj, lk, reduceIte, Nat.reduceEqDiff]; rfl) ?_
    exact hK3 _ _ ⟨_, by omega, i + 1, h2, by omega, hI2, hEk.trans hE2, rfl, rfl, rfl⟩
  · skip
    have hI0 : IL hk lx 12 stmp := by have h9 := hIk; rw [show i = 12 by omega, List.drop_eq_nil_of_le (by omega), List.append_nil] at h9; exact h9
    have hok_ := True.intro
    have hE0 : Ext (fun z => c.D ≤ z) h hk := hEk.mono (fun z e => by have h9 := hcold z e; omega)
    refine V_exitk [0, 1] rfl (by simp only [proj, lk, reduceIte, Nat.reduceEqDiff]; rfl) ?_
    refine hK1 _ _ ?_; clear hK1
    refine V_seqJ (fun l h' => ∃ (h3 : Heap) (ma3 : Option Addr) (mc3 : Nat) (mine3 : List (Option Addr)), (LW h3 c la lc Q W cl s p pa pc txt ma3 mc3 mine3) ∧ (mine3.length < 16) ∧ (IL h3 lx 12 stmp) ∧ (∀ z, blkA lx = some z → c.D < z ∧ blkA la ≠ some z ∧ blkA pa ≠ some z ∧ blkA ma3 ≠ some z) ∧ (Ext (fun z => c.D ≤ z) h h3) ∧ l = [(0, .pointer (some ⟨c.D, 0, none⟩)), (1, .slice lx 12 12)] ∧ h3 = h') ?_ ?_
    · skip
      refine V_sr T.mix (by kernel_rfl) (fun K8 hK8 => ?_)
      refine S_mv rfl ?_
      refine S_nc rfl ?_
      first | refine S_fa0 T.f40_5 rfl ?_ | refine S_fa T.f40_5 rfl ?_
      refine S_ldK T.ag38 rfl (fun K' hK' => ?_)
      simp (disch := omega) only [d8, oP_some, Nat.add_zero]
      refine hK' _ ?_; clear hK' K'
      refine S_lenl T.el38 rfl ?_
      refine S_bin rfl rfl rfl ?_
      refine S_nil (hK8 _ _ (V_keep [0, 1, 20] (by simp only [proj, lk, reduceIte, Nat.reduceEqDiff]; rfl) ?_)); clear hK8
      refine V_condp rfl (fun c338 => ?_) (fun c338 => ?_)
      · skip
        obtain ⟨bm, hbm, _, hcm⟩ := mi_get wk.mi (show 0 < mine.length by omega)
        subst hbm
        have hcap := (OwnR.len wk.mi).2
        have hok_ := True.intro
        refine V_sr T.mix (by kernel_rfl) (fun K9 hK9 => ?_)
        refine S_as rfl ?_
        refine S_nil (hK9 _ _ (V_keep [0, 1, 5] (by simp only [proj, lk, reduceIte, Nat.reduceEqDiff]; rfl) ?_)); clear hK9
        refine V_sr T.mix (by kernel_rfl) (fun K10 hK10 => ?_)
        refine S_mv rfl ?_
        refine S_mv rfl ?_
        refine S_nc rfl ?_
        first | refine S_fa0 T.f40_5 rfl ?_ | refine S_fa T.f40_5 rfl ?_
        refine S_ldK T.ag38 rfl (fun K' hK' => ?_)
        simp (disch := omega) only [d8, oP_some, Nat.add_zero]
        refine hK' _ ?_; clear hK' K'
        refine S_sl rfl rfl rfl (sliceV_one T.el38 (by omega) hcap) ?_
        refine S_appx (lo := 0) T.ei38 T.ni38 T.us38 rfl rfl rfl (OwnR.nil _ _ _ _) (Nat.zero_le _) (srcV_one wk.mi (by omega)) (by rw [List.length_drop, kvs_len, Nat.mul_one]) (by omega) (by decide) (by decide) (by rw [← kvs_drop, List.all_eq_true]; exact kvs_one _) (fun a2 c2 h2 ho2 hE2 hb2 => ?_)
        have hE2f : Ext (fun _ => False) hk h2 := hE2.mono fun b e => by simp [blkA] at e
        have w2 := wk.new hE2f
        try clear d0 d1 d2 d3 d4 d5 d6 d7 d8 dok
        obtain ⟨d0, d1, d2, d3, d4, d5, d6, d7, d8, dok⟩ := dq (w2.dd)
        have ha2 : ∀ z, blkA a2 = some z → hk.size ≤ z := fun z e => by rcases hb2 with q | q; (rw [q] at e; simp [blkA] at e); (rw [q] at e; cases e; exact Nat.le_refl _)
        rw [Nat.zero_add, List.nil_append, ← kvs_drop] at ho2
        rw [Nat.zero_add]
        refine S_as rfl ?_
        refine S_nil (hK10 _ _ (V_keep [0, 1, 5] (by simp only [proj, lk, reduceIte, Nat.reduceEqDiff]; rfl) ?_)); clear hK10
        refine V_reg T.mix (by kernel_rfl) ?_
        refine S_mv rfl ?_
        refine S_mv rfl ?_
        refine S_nc rfl ?_
        first | refine S_fa0 T.f40_5 rfl ?_ | refine S_fa T.f40_5 rfl ?_
        refine S_st T.sz38 rfl rfl rfl rfl (by simp (disch := omega) only [dok, hok_]) ?_
        generalize hh : putH _ _ _ = h3
        have hD3 : B h3 c.D (wcs c txt a2 (mine.drop 1).length c2) 40 := by rw [← hh, List.length_drop]; exact (w2.dd.put 8 _).cong (by simp [wcs])
        have hE3 : Ext (fun z => z = c.D) h2 h3 := by rw [← hh]; exact Ext.put _ _ rfl
        clear hh
        have hs2 := hE2f.1
        have ho3 : OwnR 0 h3 a2 (mine.drop 1).length c2 (kvs (mine.drop 1)) 49 1 := by rw [List.length_drop]; exact OwnR.ext ho2 hE3 (fun b e f => by have h9 := ha2 b (by rw [e]; rfl); omega)
        have w3_ := wk.mined ((hE2f.mono fun _ f => f.elim).trans (hE3.mono fun z e => .inl e)) hD3 ho3 (fun z e => .inr (ha2 z e)) (by rw [List.length_drop]; omega) (fun a ha => .inl (List.mem_of_mem_drop ha))
        refine S_nilk [0, 1] (by simp only [proj, lk, reduceIte, Nat.reduceEqDiff]; rfl) ?_
        exact ⟨h3, a2, c2, mine.drop 1, w3_, by rw [List.length_drop]; omega, (hI0.ext hE2f (fun _ _ f => f)).ext hE3 (fun b e f => by have h9 := (hcold b e).1; omega), fun z e => ⟨(hcold z e).1, (hcold z e).2.1, (hcold z e).2.2.1, fun f => by have h9 := ha2 z f; have h8 := hI0.lt e; omega⟩, (hE0.trans (hE2f.mono fun _ f => f.elim)).trans (hE3.mono fun z e => by omega), rfl, rfl⟩
      · skip
        refine V_skipk [0, 1] (by simp only [proj, lk, reduceIte, Nat.reduceEqDiff]; rfl) ?_
        exact ⟨hk, ma, mc, mine, wk, by omega, hI0, hcold, hE0, rfl, rfl⟩
    rintro l h' ⟨h3, ma3, mc3, mine3, w3, hl3, hI3, hcold3, hE3, rfl, rfl⟩
    have hD3l := w3.lt
    try clear d0 d1 d2 d3 d4 d5 d6 d7 d8 dok
    obtain ⟨d0, d1, d2, d3, d4, d5, d6, d7, d8, dok⟩ := dq (w3.dd)
    refine V_reg T.mix (by kernel_rfl) ?_
    refine S_mv rfl ?_
    refine S_mv rfl ?_
    refine S_nc rfl ?_
    first | refine S_fa0 T.f40_5 rfl ?_ | refine S_fa T.f40_5 rfl ?_
    refine S_ldK T.ag38 rfl (fun K' hK' => ?_)
    simp (disch := omega) only [d8, oP_some, Nat.add_zero]
    refine hK' _ ?_; clear hK' K'
    refine S_mv rfl ?_
    refine S_bs T.ei38 rfl (by decide) (by decide) (T.bs38_1_0 _ _ _) ?_
    refine S_appx (lo := 0) T.ei38 T.ni38 T.us38 rfl rfl rfl (OwnR.ext w3.mi (Ext.push (fun _ => False) _ _) (fun _ _ f => f)) (Nat.zero_le _) (cellsH_new _ _ _) rfl (by omega) (by decide) (by decide) rfl (fun a4 c4 h4 ho4 hE4x hb4x => ?_)
    have hE4 : Ext (fun z => blkA ma3 = some z) h3 h4 := (Ext.push _ _ _).trans hE4x
    have hb4 := new_blk2 (h := h3) hb4x (by simp)
    have hD4 := w3.dd.ext hE4 (fun e => by have h9 := (w3.hma _ e).1; omega)
    try clear d0 d1 d2 d3 d4 d5 d6 d7 d8 dok
    obtain ⟨d0, d1, d2, d3, d4, d5, d6, d7, d8, dok⟩ := dq (hD4)
    refine S_nc rfl ?_
    first | refine S_fa0 T.f40_5 rfl ?_ | refine S_fa T.f40_5 rfl ?_
    refine S_st T.sz38 rfl rfl rfl rfl (by simp (disch := omega) only [dok, hok_]) ?_
    generalize hh : putH _ _ _ = h5
    have hD5 : B h5 c.D (wcs c txt a4 (mine3 ++ [lx]).length c4) 40 := by rw [← hh, List.length_append]; exact (hD4.put 8 _).cong (by simp [wcs])
    have hE5 : Ext (fun z => z = c.D) h4 h5 := by rw [← hh]; exact Ext.put _ _ rfl
    clear hh
    have ho5 : OwnR 0 h5 a4 (mine3 ++ [lx]).length c4 (kvs (mine3 ++ [lx])) 49 1 := by rw [kvs_snoc, List.length_append]; exact OwnR.ext ho4 hE5 (fun b e f => by rcases hb4 b (by rw [e]; rfl) with q | q; (have h9 := (w3.hma _ q).1; omega); (have h9 := w3.lt; omega))
    have hE35 : Ext (fun z => z = c.D ∨ blkA ma3 = some z) h3 h5 := (hE4.mono fun z e => .inr e).trans (hE5.mono fun z e => .inl e)
    have w5 := w3.mined hE35 hD5 ho5 hb4 (by rw [List.length_append]; simp; omega) (fun a ha => by rcases List.mem_append.1 ha with q | q; (exact .inl q); (rw [List.mem_singleton.1 q]; exact .inr ⟨hI3, hcold3⟩))
    refine S_nilk [] (by simp only [proj, lk, reduceIte, Nat.reduceEqDiff]; rfl) ?_
    -- end
    refine hR _ _ (ret0 rfl ?_)
    exact ⟨rfl, a4, c4, _, w5, (hE3.step hE4 (fun b hb e => by have h9 := (w3.hma b e).1; omega)).step hE5 (fun b hb e => by omega)⟩
end Go.Proofs.Qxb6500401aGreat
