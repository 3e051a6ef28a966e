import Derived.Test.Qxb6500403aGreatXh
set_option linter.unusedVariables false
set_option linter.unusedSimpArgs false
namespace Go.Proofs.Qxb6500403aGreat
open Go.Eng Go.Trl Go.Chk Go.Wat

/-! ### kept lists -/
def Kp (h : Heap) (q : Option Addr × Nat) : Prop := IL h q.1 q.2 (List.replicate q.2 (-7777777)) ∧ q.2 ≤ 1000
def kV (q : Option Addr × Nat) : Value := .slice q.1 q.2 q.2
def kvs (l : List (Option Addr × Nat)) : List Value := l.map kV
theorem kvs_len (l : List (Option Addr × Nat)) : (kvs l).length = l.length := by simp [kvs]
theorem kvs_snoc (l : List (Option Addr × Nat)) (q : Option Addr × Nat) : kvs (l ++ [q]) = kvs l ++ [kV q] := by simp [kvs]
def MI (h : Heap) (a : Option Addr) (cap : Nat) (l : List (Option Addr × Nat)) : Prop := OwnR 0 h a l.length cap (kvs l) 33 1
theorem MI.get {h : Heap} {a : Option Addr} {cap : Nat} {l : List (Option Addr × Nat)} (ho : MI h a cap l) (hl : 0 < l.length) :
    ∃ b, a = some ⟨b, 0, none⟩ ∧ b < h.size ∧ (∀ j, j < l.length → cellH h ⟨b, j, none⟩ = some (.slice (l.getD j (none, 0)).1 (l.getD j (none, 0)).2 (l.getD j (none, 0)).2)) ∧ ∀ j, j < cap → okPut h ⟨b, j, none⟩ = true := by
  obtain ⟨b, h1, _, h2, h3, h4⟩ := OwnR.some ho hl
  refine ⟨b, h1, h2, fun j hj => ?_, fun j hj => h4 j (by omega)⟩
  rw [h3 j (by rw [kvs_len]; exact hj)]
  simp [kvs, hj, kV]
theorem MI.ext {h h' : Heap} {a : Option Addr} {cap : Nat} {l : List (Option Addr × Nat)} {S : Nat → Prop} (ho : MI h a cap l) (he : Ext S h h') (hS : ∀ b, blkA a = some b → ¬ S b) : MI h' a cap l :=
  OwnR.ext ho he (fun b hb => hS b (by rw [hb]; rfl))
theorem rep_get (n j : Nat) (h : j < n) : (List.replicate n (-7777777 : Int)).getD j 0 = -7777777 := by simp [h]
theorem OwnR.putv {lo : Nat} {h : Heap} {b k cap : Nat} {xs : List Value} {e : TypeId} (ho : OwnR lo h (some ⟨b, 0, none⟩) k cap xs e 1) (i : Nat) (v : Value) : OwnR lo (putH h ⟨b, i, none⟩ v) (some ⟨b, 0, none⟩) k cap (xs.set i v) e 1 := by
  rcases ho with ⟨h1, _⟩ | ⟨b2, cs, h1, h2, h3, h4, h5, h6, h7⟩
  · cases h1
  · cases h1
    refine .inr ⟨b, cs.setIfInBounds i v, rfl, h2, h3.put i v, by rw [Array.size_setIfInBounds]; exact h4, h5, by rw [List.length_set]; exact h6, fun j hj => ?_⟩
    rw [List.length_set] at hj
    have hcs : j < cs.size := by omega
    rw [Array.getElem?_setIfInBounds, List.getElem?_set]
    by_cases e : i = j
    · subst e; simp [hcs, hj]
    · simp [e]; rw [h7 j hj]
theorem IL.put {h : Heap} {b cap : Nat} {l : List Int} (ho : IL h (some ⟨b, 0, none⟩) cap l) (i : Nat) (x : Int) : IL (putH h ⟨b, i, none⟩ (.int .i64 x)) (some ⟨b, 0, none⟩) cap (l.set i x) := by
  have := OwnR.putv ho i (.int .i64 x)
  unfold IL ints at *
  rw [List.length_set, List.map_set]; exact this
theorem spoil_set (xs : List Int) {i : Nat} (h : i < xs.length) : (List.replicate i (-7777777 : Int) ++ xs.drop i).set i (-7777777) = List.replicate (i + 1) (-7777777) ++ xs.drop (i + 1) := by
  rw [List.set_append, if_neg (by simp), drop_cons xs i h]
  simp [List.replicate_succ', List.append_assoc]
theorem Kp.ext {h h' : Heap} {q : Option Addr × Nat} {S : Nat → Prop} (hk : Kp h q) (he : Ext S h h') (hS : ∀ b, blkA q.1 = some b → ¬ S b) : Kp h' q := ⟨hk.1.ext he hS, hk.2⟩
theorem sliceV_one {P : Program} {t : TypeId} {z : Nat} {b n cap : Nat} {k : IntKind} (hz : elS P t = some z) (h1 : 2 ≤ n) (h2 : n ≤ cap) : sliceV P t (.slice (some ⟨b, 0, none⟩) n cap) (some (.int k 1)) none = some (.slice (some ⟨b, 1 * z, none⟩) (n - 1) (cap - 1)) := by
  simp only [sliceV, hz, loV]
  rw [if_pos ⟨by omega, by omega, by omega⟩, if_neg (by simp; omega)]
  simp [add_mk]
theorem srcV_one {lo : Nat} {h : Heap} {b k cap c : Nat} {xs : List Value} {e : TypeId} (ho : OwnR lo h (some ⟨b, 0, none⟩) k cap xs e 1) (hk : 1 ≤ k) : srcV h 1 (k - 1) (.slice (some ⟨b, 1 * 1, none⟩) (k - 1) c) = some (xs.drop 1) := by
  rcases ho with ⟨h1, _⟩ | ⟨b2, cs, h1, h2, h3, h4, h5, h6, h7⟩
  · cases h1
  · cases h1
    simp only [srcV]
    rw [cellsH_blk (o := 1 * 1) h3 ((k - 1) * 1) 0 (by omega)]
    congr 1
    apply List.ext_getElem?
    intro j
    simp only [Nat.add_zero, List.getElem?_take, Nat.mul_one]
    by_cases hj : j < k - 1
    · rw [if_pos hj, List.getElem?_drop, List.getElem?_drop, ← h7 (1 + j) (by omega)]; simp
    · rw [if_neg hj, List.getElem?_eq_none (by simp; omega)]
/-! ### the world -/
structure UA where
  base : Nat
  U : Nat
  C : Nat
  X : Nat
  M : Nat
  Y : Nat
structure US where
  W : WC
  mm : MC
  cl : Nat → Option (List Int)
  s : TS
  p : Nat
  G : Nat → Prop
  F : Nat → Prop
  ra : Option Addr
  rc : Nat
  rg : List Int
  ma : Option Addr
  mc : Nat
  mine : List (Option Addr × Nat)
  V : Nat
  kn : Bool
def ucs (A : UA) (u : US) : Array Value := #[.pointer (some ⟨A.X, 0, none⟩), .pointer (some ⟨A.C, 0, none⟩), .pointer (some ⟨A.Y, 0, none⟩), .pointer (some ⟨A.M, 0, none⟩), .slice u.ra u.rg.length u.rc, .slice u.ma u.mine.length u.mc, .int .i64 (u.V : Int), .bool u.kn]
structure UI (h : Heap) (tg : Nat → Nat) (A : UA) (u : US) (nb : Nat) : Prop where
  dd : B h A.U (ucs A u) 48
  wx : WX h A.C A.X u.W u.cl u.s u.p
  mv : MV h A.M A.Y u.mm u.cl u.G u.F u.s
  rg : IL h u.ra u.rc u.rg
  rl : u.rg.length ≤ 13
  mi : MI h u.ma u.mc u.mine
  kp : ∀ q ∈ u.mine, Kp h q
  ml : u.mine.length ≤ 16
  du : ∀ i, i < 52 → dueW u.W i = true → u.mm.due i = true
  vs : u.W.vis ≤ u.mm.seen
  sb : u.mm.seen ≤ 1000
  vk : u.kn = true → u.V = u.W.vis
  pp : u.p ≤ nb
  tU : tg A.U = 1
  tC : tg A.C = 2
  tX : tg A.X = 3
  tM : tg A.M = 4
  tF : ∀ b, u.F b → tg b = 5
  tG : ∀ b, u.G b → tg b = 6
  tr : ∀ b, blkA u.ra = some b → tg b = 7
  tm : ∀ b, blkA u.ma = some b → tg b = 8
  tk : ∀ q ∈ u.mine, ∀ b, blkA q.1 = some b → tg b = 9
  z : ∀ b, h.size ≤ b → tg b = 0
  lo : ∀ b, b < A.base → tg b = 0
  hb : A.base ≤ h.size
/-- what is not the world's stays -/
def KP (tg tg' : Nat → Nat) (h h' : Heap) : Prop := Ext (fun b => tg b ≠ 0) h h' ∧ ∀ b, b < h.size → tg b = 0 → tg' b = 0
theorem KP.refl (tg : Nat → Nat) (h : Heap) : KP tg tg h h := ⟨Ext.refl _ _, fun _ _ e => e⟩
theorem KP.trans {tg tg1 tg2 : Nat → Nat} {h h1 h2 : Heap} (a : KP tg tg1 h h1) (b : KP tg1 tg2 h1 h2) : KP tg tg2 h h2 :=
  ⟨a.1.step b.1 (fun x hx e e2 => e (a.2 x hx e2)), fun x hx e => b.2 x (Nat.lt_of_lt_of_le hx a.1.1) (a.2 x hx e)⟩
theorem KP.quiet {tg : Nat → Nat} {h h' : Heap} (he : Ext (fun _ => False) h h') : KP tg tg h h' := ⟨he.mono fun _ f => f.elim, fun _ _ e => e⟩
/-- a turn of blocks that are new since h0 -/
theorem KP.tmp {tg tg1 : Nat → Nat} {h h1 h2 : Heap} {S : Nat → Prop} (a : KP tg tg1 h h1) (he : Ext S h1 h2) (hs : ∀ b, S b → h.size ≤ b) : KP tg tg1 h h2 := ⟨a.1.step he (fun x hx e => by have := hs x e; omega), a.2⟩
section ui
variable {h : Heap} {tg : Nat → Nat} {A : UA} {u : US} {nb : Nat}
theorem UI.lt1 (w : UI h tg A u nb) : A.U < h.size ∧ A.C < h.size ∧ A.X < h.size ∧ A.M < h.size := ⟨w.dd.lt, w.wx.lt.1, w.wx.lt.2, w.mv.b.lt⟩
theorem UI.ext (w : UI h tg A u nb) {h' : Heap} {S : Nat → Prop} (he : Ext S h h') (hs : ∀ b, S b → tg b = 0) : UI h' tg A u nb :=
  ⟨w.dd.ext he (fun e => by have := hs _ e; have := w.tU; omega), w.wx.ext he (fun e => by have := hs _ e; have := w.tC; omega) (fun e => by have := hs _ e; have := w.tX; omega), w.mv.ext he (fun e => by have := hs _ e; have := w.tM; omega) (fun b hb e => by have := hs _ e; have := w.tG b hb; omega) (fun b hb e => by have := hs _ e; have := w.tF b hb; omega), w.rg.ext he (fun b hb e => by have := hs _ e; have := w.tr b hb; omega), w.rl, w.mi.ext he (fun b hb e => by have := hs _ e; have := w.tm b hb; omega), fun q hq => (w.kp q hq).ext he (fun b hb e => by have := hs _ e; have := w.tk q hq b hb; omega), w.ml, w.du, w.vs, w.sb, w.vk, w.pp, w.tU, w.tC, w.tX, w.tM, w.tF, w.tG, w.tr, w.tm, w.tk, fun b hb => w.z b (Nat.le_trans he.1 hb), w.lo, Nat.le_trans w.hb he.1⟩
theorem UI.new (w : UI h tg A u nb) {h' : Heap} (he : Ext (fun _ => False) h h') : UI h' tg A u nb := w.ext he (fun _ f => f.elim)
theorem UI.up (w : UI h tg A u nb) {nb' : Nat} (hn : nb ≤ nb') : UI h tg A u nb' :=
  ⟨w.dd, w.wx, w.mv, w.rg, w.rl, w.mi, w.kp, w.ml, w.du, w.vs, w.sb, w.vk, Nat.le_trans w.pp hn, w.tU, w.tC, w.tX, w.tM, w.tF, w.tG, w.tr, w.tm, w.tk, w.z, w.lo, w.hb⟩
open Classical in
/-- the two sides turn -/
theorem UI.turn (w : UI h tg A u nb) {h' : Heap} {S : Nat → Prop} (he : Ext S h h') (hS : ∀ b, S b → tg b ≤ 5) {W' : WC} {mm' : MC} {cl' : Nat → Option (List Int)} {s' : TS} {p' nb' V' : Nat} {k' : Bool} {G' F' : Nat → Prop} (hd : B h' A.U (ucs A { u with V := V', kn := k' }) 48)
    (hwx : WX h' A.C A.X W' cl' s' p') (hmv : MV h' A.M A.Y mm' cl' G' F' s') (hF : ∀ b, F' b → u.F b ∨ h.size ≤ b) (hG : ∀ b, G' b → u.G b ∨ h.size ≤ b)
    (hdu : ∀ i, i < 52 → dueW W' i = true → mm'.due i = true) (hvs : W'.vis ≤ mm'.seen) (hsb : mm'.seen ≤ 1000) (hvk : k' = true → V' = W'.vis) (hpp : p' ≤ nb') :
    ∃ tg', UI h' tg' A { u with W := W', mm := mm', cl := cl', s := s', p := p', G := G', F := F', V := V', kn := k' } nb' ∧ (∀ b, b < h.size → tg' b = tg b) ∧ (∀ b, ¬ F' b → ¬ G' b → h.size ≤ b → tg' b = 0) := by
  have hlt := w.lt1
  obtain ⟨tg', tl, t5, t6, t0⟩ : ∃ tg' : Nat → Nat, (∀ b, b < h.size → tg' b = tg b) ∧ (∀ b, h.size ≤ b → F' b → tg' b = 5) ∧ (∀ b, h.size ≤ b → ¬ F' b → G' b → tg' b = 6) ∧ (∀ b, h.size ≤ b → ¬ F' b → ¬ G' b → tg' b = 0) :=
    ⟨fun b => if b < h.size then tg b else if F' b then 5 else if G' b then 6 else 0, fun b hb => if_pos hb, fun b hb e => (if_neg (by omega)).trans (if_pos e), fun b hb e1 e2 => (if_neg (by omega)).trans ((if_neg e1).trans (if_pos e2)), fun b hb e1 e2 => (if_neg (by omega)).trans ((if_neg e1).trans (if_neg e2))⟩
  refine ⟨tg', ?_, tl, fun b h1 h2 h3 => t0 b h3 h1 h2⟩
  refine ⟨hd, hwx, hmv, w.rg.ext he (fun b hb e => by have := hS _ e; have := w.tr b hb; omega), w.rl, w.mi.ext he (fun b hb e => by have := hS _ e; have := w.tm b hb; omega), fun q hq => (w.kp q hq).ext he (fun b hb e => by have := hS _ e; have := w.tk q hq b hb; omega), w.ml, hdu, hvs, hsb, hvk, hpp, by rw [tl _ hlt.1]; exact w.tU, by rw [tl _ hlt.2.1]; exact w.tC, by rw [tl _ hlt.2.2.1]; exact w.tX, by rw [tl _ hlt.2.2.2]; exact w.tM, fun b hb => ?_, fun b hb => ?_, fun b hb => ?_, fun b hb => ?_, fun q hq b hb => ?_, fun b hb => ?_, fun b hb => ?_, Nat.le_trans w.hb he.1⟩
  · by_cases e : b < h.size
    · rw [tl b e]; rcases hF b hb with q | q
      · exact w.tF b q
      · omega
    · exact t5 b (by omega) hb
  · by_cases e : b < h.size
    · rw [tl b e]; rcases hG b hb with q | q
      · exact w.tG b q
      · omega
    · exact t6 b (by omega) (hmv.nG b hb) hb
  · have := w.rg.lt hb; rw [tl b this]; exact w.tr b hb
  · have := (OwnR.blk2 w.mi hb).2; rw [tl b this]; exact w.tm b hb
  · have := (w.kp q hq).1.lt hb; rw [tl b this]; exact w.tk q hq b hb
  · have h1 : ¬ F' b := fun e => by have := hmv.t.lt e; omega
    have h2 : ¬ G' b := fun e => by have := hmv.lt b e; omega
    have := he.1
    exact t0 b (by omega) h1 h2
  · have := w.hb; rw [tl b (by omega)]; exact w.lo b hb
/-- the gauge's cells -/
theorem UI.gauge (w : UI h tg A u nb) {h' : Heap} {V' : Nat} {k' : Bool} (he : Ext (fun b => b = A.U) h h') (hd : B h' A.U (ucs A { u with V := V', kn := k' }) 48) (hv : k' = true → V' = u.W.vis) : UI h' tg A { u with V := V', kn := k' } nb := by
  have nU : ∀ b, tg b ≠ 1 → ¬ b = A.U := fun b hb e => hb (by rw [e]; exact w.tU)
  exact ⟨hd, w.wx.ext he (nU _ (by rw [w.tC]; omega)) (nU _ (by rw [w.tX]; omega)), w.mv.ext he (nU _ (by rw [w.tM]; omega)) (fun b hb => nU b (by rw [w.tG b hb]; omega)) (fun b hb => nU b (by rw [w.tF b hb]; omega)), w.rg.ext he (fun b hb => nU b (by rw [w.tr b hb]; omega)), w.rl, w.mi.ext he (fun b hb => nU b (by rw [w.tm b hb]; omega)), fun q hq => (w.kp q hq).ext he (fun b hb => nU b (by rw [w.tk q hq b hb]; omega)), w.ml, w.du, w.vs, w.sb, hv, w.pp, w.tU, w.tC, w.tX, w.tM, w.tF, w.tG, w.tr, w.tm, w.tk, fun b hb => w.z b (Nat.le_trans he.1 hb), w.lo, Nat.le_trans w.hb he.1⟩
open Classical in
/-- the register -/
theorem UI.reg (w : UI h tg A u nb) {h' : Heap} {ra' : Option Addr} {rc' : Nat} {rg' : List Int} (he : Ext (fun b => b = A.U ∨ blkA u.ra = some b) h h') (hd : B h' A.U (ucs A { u with ra := ra', rc := rc', rg := rg' }) 48) (hr : IL h' ra' rc' rg') (hl : rg'.length ≤ 13) (hb : ∀ b, blkA ra' = some b → blkA u.ra = some b ∨ h.size ≤ b) :
    ∃ tg', UI h' tg' A { u with ra := ra', rc := rc', rg := rg' } nb ∧ (∀ b, b < h.size → tg' b = tg b) := by
  have hlt := w.lt1
  have nU : ∀ b, tg b ≠ 1 → tg b ≠ 7 → ¬ (b = A.U ∨ blkA u.ra = some b) := fun b h1 h2 e => by
    rcases e with e | e
    · exact h1 (by rw [e]; exact w.tU)
    · exact h2 (w.tr b e)
  obtain ⟨tg', tl, t7, t0⟩ : ∃ tg' : Nat → Nat, (∀ b, b < h.size → tg' b = tg b) ∧ (∀ b, h.size ≤ b → blkA ra' = some b → tg' b = 7) ∧ (∀ b, h.size ≤ b → ¬ blkA ra' = some b → tg' b = 0) :=
    ⟨fun b => if b < h.size then tg b else if blkA ra' = some b then 7 else 0, fun b hb => if_pos hb, fun b hb e => (if_neg (by omega)).trans (if_pos e), fun b hb e => (if_neg (by omega)).trans (if_neg e)⟩
  refine ⟨tg', ?_, tl⟩
  refine ⟨hd, w.wx.ext he (nU _ (by rw [w.tC]; omega) (by rw [w.tC]; omega)) (nU _ (by rw [w.tX]; omega) (by rw [w.tX]; omega)), w.mv.ext he (nU _ (by rw [w.tM]; omega) (by rw [w.tM]; omega)) (fun b hb => nU b (by rw [w.tG b hb]; omega) (by rw [w.tG b hb]; omega)) (fun b hb => nU b (by rw [w.tF b hb]; omega) (by rw [w.tF b hb]; omega)), hr, hl, w.mi.ext he (fun b hb => nU b (by rw [w.tm b hb]; omega) (by rw [w.tm b hb]; omega)), fun q hq => (w.kp q hq).ext he (fun b hb => nU b (by rw [w.tk q hq b hb]; omega) (by rw [w.tk q hq b hb]; omega)), w.ml, w.du, w.vs, w.sb, w.vk, w.pp, by rw [tl _ hlt.1]; exact w.tU, by rw [tl _ hlt.2.1]; exact w.tC, by rw [tl _ hlt.2.2.1]; exact w.tX, by rw [tl _ hlt.2.2.2]; exact w.tM, fun b hb => ?_, fun b hb => ?_, fun b e => ?_, fun b hb => ?_, fun q hq b hb => ?_, fun b e => ?_, fun b hb => ?_, Nat.le_trans w.hb he.1⟩
  · rw [tl b (w.mv.t.lt hb)]; exact w.tF b hb
  · rw [tl b (w.mv.lt b hb)]; exact w.tG b hb
  · by_cases q : b < h.size
    · rw [tl b q]; rcases hb b e with q2 | q2
      · exact w.tr b q2
      · omega
    · exact t7 b (by omega) e
  · rw [tl b (OwnR.blk2 w.mi hb).2]; exact w.tm b hb
  · rw [tl b ((w.kp q hq).1.lt hb)]; exact w.tk q hq b hb
  · have := he.1
    exact t0 b (by omega) (fun z => by have := hr.lt z; omega)
  · have := w.hb; rw [tl b (by omega)]; exact w.lo b hb
open Classical in
/-- a list is kept -/
theorem UI.keep (w : UI h tg A u nb) {h' : Heap} {la : Option Addr} {n : Nat} {ma' : Option Addr} {mc' : Nat} {mine' : List (Option Addr × Nat)} (he : Ext (fun b => b = A.U ∨ blkA u.ma = some b) h h') (hd : B h' A.U (ucs A { u with ma := ma', mc := mc', mine := mine' }) 48) (hm : MI h' ma' mc' mine') (hk : ∀ q ∈ mine', q ∈ u.mine ∨ q = (la, n)) (hl : mine'.length ≤ 16) (hb : ∀ b, blkA ma' = some b → blkA u.ma = some b ∨ h.size ≤ b) (hla : Kp h (la, n)) (h0 : ∀ b, blkA la = some b → tg b = 0) (hlb : ∀ b, blkA la = some b → A.base ≤ b) :
    ∃ tg', UI h' tg' A { u with ma := ma', mc := mc', mine := mine' } nb ∧ (∀ b, b < h.size → blkA la ≠ some b → tg' b = tg b) := by
  have hlt := w.lt1
  have nU : ∀ b, tg b ≠ 1 → tg b ≠ 8 → ¬ (b = A.U ∨ blkA u.ma = some b) := fun b h1 h2 e => by
    rcases e with e | e
    · exact h1 (by rw [e]; exact w.tU)
    · exact h2 (w.tm b e)
  have ll : ∀ b, blkA la = some b → b < h.size := fun b e => hla.1.lt e
  obtain ⟨tg', t9, tl2, t8, t0⟩ : ∃ tg' : Nat → Nat, (∀ b, blkA la = some b → tg' b = 9) ∧ (∀ b, b < h.size → ¬ blkA la = some b → tg' b = tg b) ∧ (∀ b, h.size ≤ b → blkA ma' = some b → tg' b = 8) ∧ (∀ b, h.size ≤ b → ¬ blkA ma' = some b → tg' b = 0) :=
    ⟨fun b => if blkA la = some b then 9 else if b < h.size then tg b else if blkA ma' = some b then 8 else 0, fun b e => if_pos e, fun b hb e => (if_neg e).trans (if_pos hb), fun b hb e => (if_neg (fun z => by have := ll b z; omega)).trans ((if_neg (by omega)).trans (if_pos e)), fun b hb e => (if_neg (fun z => by have := ll b z; omega)).trans ((if_neg (by omega)).trans (if_neg e))⟩
  have tl : ∀ b, b < h.size → tg b ≠ 0 → tg' b = tg b := fun b hb hz => tl2 b hb (fun e => hz (h0 b e))
  refine ⟨tg', ?_, fun b hb e => tl2 b hb e⟩
  refine ⟨hd, w.wx.ext he (nU _ (by rw [w.tC]; omega) (by rw [w.tC]; omega)) (nU _ (by rw [w.tX]; omega) (by rw [w.tX]; omega)), w.mv.ext he (nU _ (by rw [w.tM]; omega) (by rw [w.tM]; omega)) (fun b hb => nU b (by rw [w.tG b hb]; omega) (by rw [w.tG b hb]; omega)) (fun b hb => nU b (by rw [w.tF b hb]; omega) (by rw [w.tF b hb]; omega)), w.rg.ext he (fun b hb => nU b (by rw [w.tr b hb]; omega) (by rw [w.tr b hb]; omega)), w.rl, hm, fun q hq => ?_, hl, w.du, w.vs, w.sb, w.vk, w.pp, by rw [tl _ hlt.1 (by rw [w.tU]; omega)]; exact w.tU, by rw [tl _ hlt.2.1 (by rw [w.tC]; omega)]; exact w.tC, by rw [tl _ hlt.2.2.1 (by rw [w.tX]; omega)]; exact w.tX, by rw [tl _ hlt.2.2.2 (by rw [w.tM]; omega)]; exact w.tM, fun b hb => ?_, fun b hb => ?_, fun b e => ?_, fun b e => ?_, fun q hq b e => ?_, fun b e => ?_, fun b e => ?_, Nat.le_trans w.hb he.1⟩
  · rcases hk q hq with e | e
    · exact (w.kp q e).ext he (fun b hb => nU b (by rw [w.tk q e b hb]; omega) (by rw [w.tk q e b hb]; omega))
    · rw [e]; exact hla.ext he (fun b hb => nU b (by rw [h0 b hb]; omega) (by rw [h0 b hb]; omega))
  · rw [tl b (w.mv.t.lt hb) (by rw [w.tF b hb]; omega)]; exact w.tF b hb
  · rw [tl b (w.mv.lt b hb) (by rw [w.tG b hb]; omega)]; exact w.tG b hb
  · rw [tl b (w.rg.lt e) (by rw [w.tr b e]; omega)]; exact w.tr b e
  · rcases hb b e with q | q
    · rw [tl b (OwnR.blk2 w.mi q).2 (by rw [w.tm b q]; omega)]; exact w.tm b q
    · exact t8 b q e
  · rcases hk q hq with z | z
    · rw [tl b ((w.kp q z).1.lt e) (by rw [w.tk q z b e]; omega)]; exact w.tk q z b e
    · subst z; exact t9 b e
  · have := he.1
    exact t0 b (by omega) (fun z => by have := (OwnR.blk2 hm z).2; omega)
  · have := w.hb
    rw [tl2 b (by omega) (fun z => by have := hlb b z; omega)]; exact w.lo b e
end ui
end Go.Proofs.Qxb6500403aGreat
