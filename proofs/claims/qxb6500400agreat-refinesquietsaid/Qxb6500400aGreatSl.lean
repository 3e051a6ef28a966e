import Derived.Test.Qxb6500400aGreatYl
import Derived.Test.Qxb6500400aGreatEn
set_option linter.unusedVariables false
set_option linter.unusedSimpArgs false
namespace Go.Proofs.Qxb6500400aGreat
open Go.Eng Go.Trl Go.Chk Go.Wat

/-! ### kept lists -/
def Kp (h : Heap) (q : Option Addr × Nat) : Prop := IL h q.1 q.2 (List.replicate q.2 (-99)) ∧ q.2 ≤ 1000
def kV (q : Option Addr × Nat) : Value := .slice q.1 q.2 q.2
def kvs (l : List (Option Addr × Nat)) : List Value := l.map kV
theorem kvs_len (l : List (Option Addr × Nat)) : (kvs l).length = l.length := by simp [kvs]
theorem kvs_snoc (l : List (Option Addr × Nat)) (q : Option Addr × Nat) : kvs (l ++ [q]) = kvs l ++ [kV q] := by simp [kvs]
def MI (h : Heap) (a : Option Addr) (cap : Nat) (l : List (Option Addr × Nat)) : Prop := OwnR 0 h a l.length cap (kvs l) 39 1
theorem MI.get {h : Heap} {a : Option Addr} {cap : Nat} {l : List (Option Addr × Nat)} (ho : MI h a cap l) (hl : 0 < l.length) :
    ∃ b, a = some ⟨b, 0, none⟩ ∧ b < h.size ∧ (∀ j, j < l.length → cellH h ⟨b, j, none⟩ = some (.slice (l.getD j (none, 0)).1 (l.getD j (none, 0)).2 (l.getD j (none, 0)).2)) ∧ ∀ j, j < cap → okPut h ⟨b, j, none⟩ = true := by
  obtain ⟨b, h1, _, h2, h3, h4⟩ := OwnR.some ho hl
  refine ⟨b, h1, h2, fun j hj => ?_, fun j hj => h4 j (by omega)⟩
  rw [h3 j (by rw [kvs_len]; exact hj)]
  simp [kvs, hj, kV]
theorem MI.ext {h h' : Heap} {a : Option Addr} {cap : Nat} {l : List (Option Addr × Nat)} {S : Nat → Prop} (ho : MI h a cap l) (he : Ext S h h') (hS : ∀ b, blkA a = some b → ¬ S b) : MI h' a cap l :=
  OwnR.ext ho he (fun b hb => hS b (by rw [hb]; rfl))
theorem MI.put {h : Heap} {b cap : Nat} {l : List (Option Addr × Nat)} (ho : MI h (some ⟨b, 0, none⟩) cap l) (i : Nat) (q : Option Addr × Nat) : MI (putH h ⟨b, i, none⟩ (kV q)) (some ⟨b, 0, none⟩) cap (l.set i q) := by
  have := OwnR.putv ho i (kV q)
  unfold MI kvs at *
  rw [List.length_set, List.map_set]; exact this
theorem rep_get (n j : Nat) (h : j < n) : (List.replicate n (-99 : Int)).getD j 0 = -99 := by simp [h]
theorem Kp.ext {h h' : Heap} {q : Option Addr × Nat} {S : Nat → Prop} (hk : Kp h q) (he : Ext S h h') (hS : ∀ b, blkA q.1 = some b → ¬ S b) : Kp h' q := ⟨hk.1.ext he hS, hk.2⟩
theorem rmem {l : List (Option Addr × Nat)} {j : Nat} (h : j < l.length) : l.getD j (none, 0) ∈ l := by
  rw [List.getD_eq_getElem?_getD, List.getElem?_eq_getElem h]; exact List.getElem_mem h
/-! ### the world -/
structure UA where
  base : Nat
  U : Nat
  C : Nat
  X : Nat
  M : Nat
  Y : Nat
  K : Nat
  D : Nat
structure US where
  W : WC
  mm : MC
  cl : Nat → Option (List Int)
  s : TS
  p : Nat
  G : Nat → Prop
  F : Nat → Prop
  q : LC
  ra : Option Addr
  rc : Nat
  rg : List Int
  last : Int
  loose : Bool
  ma : Option Addr
  mc : Nat
  mine : List (Option Addr × Nat)
def ucs (A : UA) (u : US) : Array Value := #[.pointer (some ⟨A.X, 0, none⟩), .pointer (some ⟨A.C, 0, none⟩), .pointer (some ⟨A.K, 0, none⟩), .pointer (some ⟨A.Y, 0, none⟩), .pointer (some ⟨A.M, 0, none⟩), .pointer (some ⟨A.D, 0, none⟩), .slice u.ra u.rg.length u.rc, .int .i64 u.last, .bool u.loose, .slice u.ma u.mine.length u.mc]
theorem uq {h : Heap} {A : UA} {u : US} (hB : B h A.U (ucs A u) 42) : cellH h ⟨A.U, 0, none⟩ = some (.pointer (some ⟨A.X, 0, none⟩)) ∧ cellH h ⟨A.U, 1, none⟩ = some (.pointer (some ⟨A.C, 0, none⟩)) ∧ cellH h ⟨A.U, 2, none⟩ = some (.pointer (some ⟨A.K, 0, none⟩)) ∧ cellH h ⟨A.U, 3, none⟩ = some (.pointer (some ⟨A.Y, 0, none⟩)) ∧ cellH h ⟨A.U, 4, none⟩ = some (.pointer (some ⟨A.M, 0, none⟩)) ∧ cellH h ⟨A.U, 5, none⟩ = some (.pointer (some ⟨A.D, 0, none⟩)) ∧ cellH h ⟨A.U, 6, none⟩ = some (.slice u.ra u.rg.length u.rc) ∧ cellH h ⟨A.U, 7, none⟩ = some (.int .i64 u.last) ∧ cellH h ⟨A.U, 8, none⟩ = some (.bool u.loose) ∧ cellH h ⟨A.U, 9, none⟩ = some (.slice u.ma u.mine.length u.mc) ∧ ∀ j, j < 10 → okPut h ⟨A.U, j, none⟩ = true :=
  ⟨hB.cell 0, hB.cell 1, hB.cell 2, hB.cell 3, hB.cell 4, hB.cell 5, hB.cell 6, hB.cell 7, hB.cell 8, hB.cell 9, fun j hj => hB.ok (by simpa [ucs] using hj)⟩
structure UI (h : Heap) (tg : Nat → Nat) (A : UA) (u : US) (nb : Nat) : Prop where
  dd : B h A.U (ucs A u) 42
  wx : WX h A.C A.X u.W u.cl u.s u.p
  mv : MV h A.M A.Y u.mm u.cl u.G u.F u.s
  lb : LB h A.K A.C A.X LS.z 0
  lm : LM h A.D A.Y A.M u.q
  rg : IL h u.ra u.rc u.rg
  rl : u.rg.length ≤ 13
  mi : MI h u.ma u.mc u.mine
  kp : ∀ q ∈ u.mine, Kp h q
  ml : u.mine.length ≤ 16
  du : ∀ i, i < 52 → dueW u.W i = true → u.mm.due i = true
  vs : u.W.vis ≤ u.mm.seen
  sb : u.mm.seen ≤ 1000
  pp : u.p ≤ nb
  sd : u.loose = false → Sn u.cl u.s.L
  tU : tg A.U = 1
  tC : tg A.C = 2
  tX : tg A.X = 3
  tM : tg A.M = 4
  tF : ∀ b, u.F b → tg b = 5
  tG : ∀ b, u.G b → tg b = 6
  tK : tg A.K = 7
  tq : ∀ b, LT u.q A.D b → tg b = 8
  tr : ∀ b, blkA u.ra = some b → tg b = 9
  tm : ∀ b, blkA u.ma = some b → tg b = 10
  tk : ∀ q ∈ u.mine, ∀ b, blkA q.1 = some b → tg b = 11
  z : ∀ b, h.size ≤ b → tg b = 0
  lo : ∀ b, b < A.base → tg b = 0
  hb : A.base ≤ h.size
/-- what is not the world's stays -/
def KP (tg tg' : Nat → Nat) (h h' : Heap) : Prop := Ext (fun b => tg b ≠ 0) h h' ∧ ∀ b, b < h.size → tg b = 0 → tg' b = 0
theorem KP.refl (tg : Nat → Nat) (h : Heap) : KP tg tg h h := ⟨Ext.refl _ _, fun _ _ e => e⟩
theorem KP.trans {tg tg1 tg2 : Nat → Nat} {h h1 h2 : Heap} (a : KP tg tg1 h h1) (b : KP tg1 tg2 h1 h2) : KP tg tg2 h h2 :=
  ⟨a.1.step b.1 (fun x hx e e2 => e (a.2 x hx e2)), fun x hx e => b.2 x (Nat.lt_of_lt_of_le hx a.1.1) (a.2 x hx e)⟩
theorem KP.quiet {tg : Nat → Nat} {h h' : Heap} (he : Ext (fun _ => False) h h') : KP tg tg h h' := ⟨he.mono fun _ f => f.elim, fun _ _ e => e⟩
theorem KP.of {tg tg' : Nat → Nat} {h h' : Heap} {S : Nat → Prop} (he : Ext S h h') (hs : ∀ b, S b → tg b ≠ 0) (ht : ∀ b, b < h.size → tg' b = tg b) : KP tg tg' h h' := ⟨he.mono hs, fun b hb e => by rw [ht b hb]; exact e⟩
/-- a turn of blocks that are new since h -/
theorem KP.tmp {tg tg1 : Nat → Nat} {h h1 h2 : Heap} {S : Nat → Prop} (a : KP tg tg1 h h1) (he : Ext S h1 h2) (hs : ∀ b, S b → h.size ≤ b) : KP tg tg1 h h2 := ⟨a.1.step he (fun x hx e => by have := hs x e; omega), a.2⟩
section ui
variable {h : Heap} {tg : Nat → Nat} {A : UA} {u : US} {nb : Nat}
theorem UI.lt1 (w : UI h tg A u nb) : A.U < h.size ∧ A.C < h.size ∧ A.X < h.size ∧ A.M < h.size ∧ A.K < h.size ∧ A.D < h.size := ⟨w.dd.lt, w.wx.lt.1, w.wx.lt.2, w.mv.b.lt, w.lb.lt, w.lm.b.lt⟩
theorem UI.nk (w : UI h tg A u nb) : A.K ≠ A.C ∧ A.K ≠ A.X := ⟨fun e => by have := w.tK; rw [e, w.tC] at this; omega, fun e => by have := w.tK; rw [e, w.tX] at this; omega⟩
theorem UI.dj (w : UI h tg A u nb) : ∀ b, LT u.q A.D b → b ≠ A.M ∧ ¬ u.G b ∧ ¬ u.F b := fun b e => by
  have h8 := w.tq b e
  exact ⟨fun z => by rw [z, w.tM] at h8; omega, fun z => by rw [w.tG b z] at h8; omega, fun z => by rw [w.tF b z] at h8; omega⟩
theorem UI.ext (w : UI h tg A u nb) {h' : Heap} {S : Nat → Prop} (he : Ext S h h') (hs : ∀ b, S b → tg b = 0) : UI h' tg A u nb :=
  ⟨w.dd.ext he (fun e => by have := hs _ e; have := w.tU; omega), w.wx.ext he (fun e => by have := hs _ e; have := w.tC; omega) (fun e => by have := hs _ e; have := w.tX; omega), w.mv.ext he (fun e => by have := hs _ e; have := w.tM; omega) (fun b hb e => by have := hs _ e; have := w.tG b hb; omega) (fun b hb e => by have := hs _ e; have := w.tF b hb; omega), w.lb.ext he (fun e => by have := hs _ e; have := w.tK; omega), w.lm.ext he (fun b hb e => by have := hs _ e; have := w.tq b hb; omega), w.rg.ext he (fun b hb e => by have := hs _ e; have := w.tr b hb; omega), w.rl, w.mi.ext he (fun b hb e => by have := hs _ e; have := w.tm b hb; omega), fun q hq => (w.kp q hq).ext he (fun b hb e => by have := hs _ e; have := w.tk q hq b hb; omega), w.ml, w.du, w.vs, w.sb, w.pp, w.sd, w.tU, w.tC, w.tX, w.tM, w.tF, w.tG, w.tK, w.tq, w.tr, w.tm, w.tk, fun b hb => w.z b (Nat.le_trans he.1 hb), w.lo, Nat.le_trans w.hb he.1⟩
theorem UI.new (w : UI h tg A u nb) {h' : Heap} (he : Ext (fun _ => False) h h') : UI h' tg A u nb := w.ext he (fun _ f => f.elim)
theorem UI.up (w : UI h tg A u nb) {nb' : Nat} (hn : nb ≤ nb') : UI h tg A u nb' :=
  ⟨w.dd, w.wx, w.mv, w.lb, w.lm, w.rg, w.rl, w.mi, w.kp, w.ml, w.du, w.vs, w.sb, Nat.le_trans w.pp hn, w.sd, w.tU, w.tC, w.tX, w.tM, w.tF, w.tG, w.tK, w.tq, w.tr, w.tm, w.tk, w.z, w.lo, w.hb⟩
/-- the real learner turns and is clean again -/
theorem UI.real (w : UI h tg A u nb) {h' : Heap} (he : Ext (fun b => b = A.K) h h') (hl : LB h' A.K A.C A.X LS.z 0) : UI h' tg A u nb := by
  have nK : ∀ b, tg b ≠ 7 → ¬ b = A.K := fun b hb e => hb (by rw [e]; exact w.tK)
  exact ⟨w.dd.ext he (nK _ (by rw [w.tU]; omega)), w.wx.ext he (nK _ (by rw [w.tC]; omega)) (nK _ (by rw [w.tX]; omega)), w.mv.ext he (nK _ (by rw [w.tM]; omega)) (fun b hb => nK b (by rw [w.tG b hb]; omega)) (fun b hb => nK b (by rw [w.tF b hb]; omega)), hl, w.lm.ext he (fun b hb => nK b (by rw [w.tq b hb]; omega)), w.rg.ext he (fun b hb => nK b (by rw [w.tr b hb]; omega)), w.rl, w.mi.ext he (fun b hb => nK b (by rw [w.tm b hb]; omega)), fun q hq => (w.kp q hq).ext he (fun b hb => nK b (by rw [w.tk q hq b hb]; omega)), w.ml, w.du, w.vs, w.sb, w.pp, w.sd, w.tU, w.tC, w.tX, w.tM, w.tF, w.tG, w.tK, w.tq, w.tr, w.tm, w.tk, fun b hb => w.z b (Nat.le_trans he.1 hb), w.lo, Nat.le_trans w.hb he.1⟩
/-- the desk's cells -/
theorem UI.desk (w : UI h tg A u nb) {h' : Heap} {la : Int} {lo : Bool} (he : Ext (fun b => b = A.U) h h') (hd : B h' A.U (ucs A { u with last := la, loose := lo }) 42) (hs : lo = false → Sn u.cl u.s.L) : UI h' tg A { u with last := la, loose := lo } nb := by
  have nU : ∀ b, tg b ≠ 1 → ¬ b = A.U := fun b hb e => hb (by rw [e]; exact w.tU)
  exact ⟨hd, w.wx.ext he (nU _ (by rw [w.tC]; omega)) (nU _ (by rw [w.tX]; omega)), w.mv.ext he (nU _ (by rw [w.tM]; omega)) (fun b hb => nU b (by rw [w.tG b hb]; omega)) (fun b hb => nU b (by rw [w.tF b hb]; omega)), w.lb.ext he (nU _ (by rw [w.tK]; omega)), w.lm.ext he (fun b hb => nU b (by rw [w.tq b hb]; omega)), w.rg.ext he (fun b hb => nU b (by rw [w.tr b hb]; omega)), w.rl, w.mi.ext he (fun b hb => nU b (by rw [w.tm b hb]; omega)), fun q hq => (w.kp q hq).ext he (fun b hb => nU b (by rw [w.tk q hq b hb]; omega)), w.ml, w.du, w.vs, w.sb, w.pp, hs, w.tU, w.tC, w.tX, w.tM, w.tF, w.tG, w.tK, w.tq, w.tr, w.tm, w.tk, fun b hb => w.z b (Nat.le_trans he.1 hb), w.lo, Nat.le_trans w.hb he.1⟩
open Classical in
/-- the two sides turn -/
theorem UI.turn (w : UI h tg A u nb) {h' : Heap} {S : Nat → Prop} (he : Ext S h h') (hS : ∀ b, S b → tg b ≤ 6) {W' : WC} {mm' : MC} {cl' : Nat → Option (List Int)} {s' : TS} {p' nb' : Nat} {G' F' : Nat → Prop} {la : Int} {lo : Bool} (hd : B h' A.U (ucs A { u with last := la, loose := lo }) 42)
    (hwx : WX h' A.C A.X W' cl' s' p') (hmv : MV h' A.M A.Y mm' cl' G' F' s') (hF : ∀ b, F' b → u.F b ∨ h.size ≤ b) (hG : ∀ b, G' b → u.G b ∨ h.size ≤ b)
    (hdu : ∀ i, i < 52 → dueW W' i = true → mm'.due i = true) (hvs : W'.vis ≤ mm'.seen) (hsb : mm'.seen ≤ 1000) (hpp : p' ≤ nb') (hsd : lo = false → Sn cl' s'.L) :
    ∃ tg', UI h' tg' A { u with W := W', mm := mm', cl := cl', s := s', p := p', G := G', F := F', last := la, loose := lo } nb' ∧ (∀ b, b < h.size → tg' b = tg b) := by
  have hlt := w.lt1
  obtain ⟨tg', tl, t5, t6, t0⟩ : ∃ tg' : Nat → Nat, (∀ b, b < h.size → tg' b = tg b) ∧ (∀ b, h.size ≤ b → F' b → tg' b = 5) ∧ (∀ b, h.size ≤ b → ¬ F' b → G' b → tg' b = 6) ∧ (∀ b, h.size ≤ b → ¬ F' b → ¬ G' b → tg' b = 0) :=
    ⟨fun b => if b < h.size then tg b else if F' b then 5 else if G' b then 6 else 0, fun b hb => if_pos hb, fun b hb e => (if_neg (by omega)).trans (if_pos e), fun b hb e1 e2 => (if_neg (by omega)).trans ((if_neg e1).trans (if_pos e2)), fun b hb e1 e2 => (if_neg (by omega)).trans ((if_neg e1).trans (if_neg e2))⟩
  refine ⟨tg', ?_, tl⟩
  refine ⟨hd, hwx, hmv, w.lb.ext he (fun e => by have := hS _ e; have := w.tK; omega), w.lm.ext he (fun b hb e => by have := hS _ e; have := w.tq b hb; omega), w.rg.ext he (fun b hb e => by have := hS _ e; have := w.tr b hb; omega), w.rl, w.mi.ext he (fun b hb e => by have := hS _ e; have := w.tm b hb; omega), fun q hq => (w.kp q hq).ext he (fun b hb e => by have := hS _ e; have := w.tk q hq b hb; omega), w.ml, hdu, hvs, hsb, hpp, hsd, by rw [tl _ hlt.1]; exact w.tU, by rw [tl _ hlt.2.1]; exact w.tC, by rw [tl _ hlt.2.2.1]; exact w.tX, by rw [tl _ hlt.2.2.2.1]; exact w.tM, fun b hb => ?_, fun b hb => ?_, by rw [tl _ hlt.2.2.2.2.1]; exact w.tK, fun b hb => ?_, fun b hb => ?_, fun b hb => ?_, fun q hq b hb => ?_, fun b hb => ?_, fun b hb => ?_, Nat.le_trans w.hb he.1⟩
  · by_cases e : b < h.size
    · rw [tl b e]; rcases hF b hb with q | q
      · exact w.tF b q
      · omega
    · exact t5 b (by omega) hb
  · by_cases e : b < h.size
    · rw [tl b e]; rcases hG b hb with q | q
      · exact w.tG b q
      · omega
    · exact t6 b (by omega) (hmv.nG b hb) hb
  · rw [tl b (w.lm.lt hb)]; exact w.tq b hb
  · have := w.rg.lt hb; rw [tl b this]; exact w.tr b hb
  · have := (OwnR.blk2 w.mi hb).2; rw [tl b this]; exact w.tm b hb
  · have := (w.kp q hq).1.lt hb; rw [tl b this]; exact w.tk q hq b hb
  · have h1 : ¬ F' b := fun e => by have := hmv.t.lt e; omega
    have h2 : ¬ G' b := fun e => by have := hmv.lt b e; omega
    have := he.1
    exact t0 b (by omega) h1 h2
  · have := w.hb; rw [tl b (by omega)]; exact w.lo b hb
open Classical in
/-- the model learner turns -/
theorem UI.turnq (w : UI h tg A u nb) {h' : Heap} {q' : LC} (he : Ext (LT u.q A.D) h h') (hlm : LM h' A.D A.Y A.M q') (hq : ∀ b, LT q' A.D b → LT u.q A.D b ∨ h.size ≤ b) :
    ∃ tg', UI h' tg' A { u with q := q' } nb ∧ (∀ b, b < h.size → tg' b = tg b) ∧ (∀ b, h.size ≤ b → ¬ LT q' A.D b → tg' b = 0) := by
  have hlt := w.lt1
  obtain ⟨tg', tl, t8, t0⟩ : ∃ tg' : Nat → Nat, (∀ b, b < h.size → tg' b = tg b) ∧ (∀ b, h.size ≤ b → LT q' A.D b → tg' b = 8) ∧ (∀ b, h.size ≤ b → ¬ LT q' A.D b → tg' b = 0) :=
    ⟨fun b => if b < h.size then tg b else if LT q' A.D b then 8 else 0, fun b hb => if_pos hb, fun b hb e => (if_neg (by omega)).trans (if_pos e), fun b hb e => (if_neg (by omega)).trans (if_neg e)⟩
  have nq : ∀ b, tg b ≠ 8 → ¬ LT u.q A.D b := fun b hb e => hb (w.tq b e)
  refine ⟨tg', ?_, tl, t0⟩
  refine ⟨w.dd.ext he (nq _ (by rw [w.tU]; omega)), w.wx.ext he (nq _ (by rw [w.tC]; omega)) (nq _ (by rw [w.tX]; omega)), w.mv.ext he (nq _ (by rw [w.tM]; omega)) (fun b hb => nq b (by rw [w.tG b hb]; omega)) (fun b hb => nq b (by rw [w.tF b hb]; omega)), w.lb.ext he (nq _ (by rw [w.tK]; omega)), hlm, w.rg.ext he (fun b hb => nq b (by rw [w.tr b hb]; omega)), w.rl, w.mi.ext he (fun b hb => nq b (by rw [w.tm b hb]; omega)), fun q hq => (w.kp q hq).ext he (fun b hb => nq b (by rw [w.tk q hq b hb]; omega)), w.ml, w.du, w.vs, w.sb, w.pp, w.sd, by rw [tl _ hlt.1]; exact w.tU, by rw [tl _ hlt.2.1]; exact w.tC, by rw [tl _ hlt.2.2.1]; exact w.tX, by rw [tl _ hlt.2.2.2.1]; exact w.tM, fun b hb => ?_, fun b hb => ?_, by rw [tl _ hlt.2.2.2.2.1]; exact w.tK, fun b hb => ?_, fun b hb => ?_, fun b hb => ?_, fun q hq b hb => ?_, fun b hb => ?_, fun b hb => ?_, Nat.le_trans w.hb he.1⟩
  · rw [tl b (w.mv.t.lt hb)]; exact w.tF b hb
  · rw [tl b (w.mv.lt b hb)]; exact w.tG b hb
  · by_cases e : b < h.size
    · rw [tl b e]; rcases hq b hb with z | z
      · exact w.tq b z
      · omega
    · exact t8 b (by omega) hb
  · rw [tl b (w.rg.lt hb)]; exact w.tr b hb
  · rw [tl b (OwnR.blk2 w.mi hb).2]; exact w.tm b hb
  · rw [tl b ((w.kp q hq).1.lt hb)]; exact w.tk q hq b hb
  · have := he.1
    exact t0 b (by omega) (fun e => by have := hlm.lt e; omega)
  · have := w.hb; rw [tl b (by omega)]; exact w.lo b hb
open Classical in
/-- the register -/
theorem UI.reg (w : UI h tg A u nb) {h' : Heap} {ra' : Option Addr} {rc' : Nat} {rg' : List Int} (he : Ext (fun b => b = A.U ∨ blkA u.ra = some b) h h') (hd : B h' A.U (ucs A { u with ra := ra', rc := rc', rg := rg' }) 42) (hr : IL h' ra' rc' rg') (hl : rg'.length ≤ 13) (hb : ∀ b, blkA ra' = some b → blkA u.ra = some b ∨ h.size ≤ b) :
    ∃ tg', UI h' tg' A { u with ra := ra', rc := rc', rg := rg' } nb ∧ (∀ b, b < h.size → tg' b = tg b) := by
  have hlt := w.lt1
  have nU : ∀ b, tg b ≠ 1 → tg b ≠ 9 → ¬ (b = A.U ∨ blkA u.ra = some b) := fun b h1 h2 e => by
    rcases e with e | e
    · exact h1 (by rw [e]; exact w.tU)
    · exact h2 (w.tr b e)
  obtain ⟨tg', tl, t7, t0⟩ : ∃ tg' : Nat → Nat, (∀ b, b < h.size → tg' b = tg b) ∧ (∀ b, h.size ≤ b → blkA ra' = some b → tg' b = 9) ∧ (∀ b, h.size ≤ b → ¬ blkA ra' = some b → tg' b = 0) :=
    ⟨fun b => if b < h.size then tg b else if blkA ra' = some b then 9 else 0, fun b hb => if_pos hb, fun b hb e => (if_neg (by omega)).trans (if_pos e), fun b hb e => (if_neg (by omega)).trans (if_neg e)⟩
  refine ⟨tg', ?_, tl⟩
  refine ⟨hd, w.wx.ext he (nU _ (by rw [w.tC]; omega) (by rw [w.tC]; omega)) (nU _ (by rw [w.tX]; omega) (by rw [w.tX]; omega)), w.mv.ext he (nU _ (by rw [w.tM]; omega) (by rw [w.tM]; omega)) (fun b hb => nU b (by rw [w.tG b hb]; omega) (by rw [w.tG b hb]; omega)) (fun b hb => nU b (by rw [w.tF b hb]; omega) (by rw [w.tF b hb]; omega)), w.lb.ext he (nU _ (by rw [w.tK]; omega) (by rw [w.tK]; omega)), w.lm.ext he (fun b hb => nU b (by rw [w.tq b hb]; omega) (by rw [w.tq b hb]; omega)), hr, hl, w.mi.ext he (fun b hb => nU b (by rw [w.tm b hb]; omega) (by rw [w.tm b hb]; omega)), fun q hq => (w.kp q hq).ext he (fun b hb => nU b (by rw [w.tk q hq b hb]; omega) (by rw [w.tk q hq b hb]; omega)), w.ml, w.du, w.vs, w.sb, w.pp, w.sd, by rw [tl _ hlt.1]; exact w.tU, by rw [tl _ hlt.2.1]; exact w.tC, by rw [tl _ hlt.2.2.1]; exact w.tX, by rw [tl _ hlt.2.2.2.1]; exact w.tM, fun b hb => ?_, fun b hb => ?_, by rw [tl _ hlt.2.2.2.2.1]; exact w.tK, fun b hb => ?_, fun b e => ?_, fun b hb => ?_, fun q hq b hb => ?_, fun b e => ?_, fun b hb => ?_, Nat.le_trans w.hb he.1⟩
  · rw [tl b (w.mv.t.lt hb)]; exact w.tF b hb
  · rw [tl b (w.mv.lt b hb)]; exact w.tG b hb
  · rw [tl b (w.lm.lt hb)]; exact w.tq b hb
  · by_cases q : b < h.size
    · rw [tl b q]; rcases hb b e with q2 | q2
      · exact w.tr b q2
      · omega
    · exact t7 b (by omega) e
  · rw [tl b (OwnR.blk2 w.mi hb).2]; exact w.tm b hb
  · rw [tl b ((w.kp q hq).1.lt hb)]; exact w.tk q hq b hb
  · have := he.1
    exact t0 b (by omega) (fun z => by have := hr.lt z; omega)
  · have := w.hb; rw [tl b (by omega)]; exact w.lo b hb
open Classical in
/-- a list is kept -/
theorem UI.keep (w : UI h tg A u nb) {h' : Heap} {la : Option Addr} {n : Nat} {ma' : Option Addr} {mc' : Nat} {mine' : List (Option Addr × Nat)} (he : Ext (fun b => b = A.U ∨ blkA u.ma = some b) h h') (hd : B h' A.U (ucs A { u with ma := ma', mc := mc', mine := mine' }) 42) (hm : MI h' ma' mc' mine') (hk : ∀ q ∈ mine', q ∈ u.mine ∨ q = (la, n)) (hl : mine'.length ≤ 16) (hb : ∀ b, blkA ma' = some b → blkA u.ma = some b ∨ h.size ≤ b) (hla : Kp h (la, n)) (h0 : ∀ b, blkA la = some b → tg b = 0) (hlb : ∀ b, blkA la = some b → A.base ≤ b) :
    ∃ tg', UI h' tg' A { u with ma := ma', mc := mc', mine := mine' } nb ∧ (∀ b, b < h.size → blkA la ≠ some b → tg' b = tg b) := by
  have hlt := w.lt1
  have nU : ∀ b, tg b ≠ 1 → tg b ≠ 10 → ¬ (b = A.U ∨ blkA u.ma = some b) := fun b h1 h2 e => by
    rcases e with e | e
    · exact h1 (by rw [e]; exact w.tU)
    · exact h2 (w.tm b e)
  have ll : ∀ b, blkA la = some b → b < h.size := fun b e => hla.1.lt e
  obtain ⟨tg', tl, t9, t8, t0⟩ : ∃ tg' : Nat → Nat, (∀ b, b < h.size → blkA la ≠ some b → tg' b = tg b) ∧ (∀ b, blkA la = some b → tg' b = 11) ∧ (∀ b, h.size ≤ b → blkA ma' = some b → tg' b = 10) ∧ (∀ b, h.size ≤ b → ¬ blkA ma' = some b → tg' b = 0) :=
    ⟨fun b => if b < h.size then (if blkA la = some b then 11 else tg b) else if blkA ma' = some b then 10 else 0, fun b hb e => (if_pos hb).trans (if_neg e), fun b e => (if_pos (ll b e)).trans (if_pos e), fun b hb e => (if_neg (by omega)).trans (if_pos e), fun b hb e => (if_neg (by omega)).trans (if_neg e)⟩
  have tn : ∀ b, b < h.size → tg b ≠ 0 → tg' b = tg b := fun b hb e => tl b hb (fun z => e (h0 b z))
  refine ⟨tg', ?_, tl⟩
  refine ⟨hd, w.wx.ext he (nU _ (by rw [w.tC]; omega) (by rw [w.tC]; omega)) (nU _ (by rw [w.tX]; omega) (by rw [w.tX]; omega)), w.mv.ext he (nU _ (by rw [w.tM]; omega) (by rw [w.tM]; omega)) (fun b hb => nU b (by rw [w.tG b hb]; omega) (by rw [w.tG b hb]; omega)) (fun b hb => nU b (by rw [w.tF b hb]; omega) (by rw [w.tF b hb]; omega)), w.lb.ext he (nU _ (by rw [w.tK]; omega) (by rw [w.tK]; omega)), w.lm.ext he (fun b hb => nU b (by rw [w.tq b hb]; omega) (by rw [w.tq b hb]; omega)), w.rg.ext he (fun b hb => nU b (by rw [w.tr b hb]; omega) (by rw [w.tr b hb]; omega)), w.rl, hm, fun q hq => ?_, hl, w.du, w.vs, w.sb, w.pp, w.sd, by rw [tn _ hlt.1 (by rw [w.tU]; omega)]; exact w.tU, by rw [tn _ hlt.2.1 (by rw [w.tC]; omega)]; exact w.tC, by rw [tn _ hlt.2.2.1 (by rw [w.tX]; omega)]; exact w.tX, by rw [tn _ hlt.2.2.2.1 (by rw [w.tM]; omega)]; exact w.tM, fun b hb => ?_, fun b hb => ?_, by rw [tn _ hlt.2.2.2.2.1 (by rw [w.tK]; omega)]; exact w.tK, fun b hb => ?_, fun b e => ?_, fun b e => ?_, fun q hq b e => ?_, fun b e => ?_, fun b hb => ?_, Nat.le_trans w.hb he.1⟩
  · rcases hk q hq with z | z
    · exact (w.kp q z).ext he (fun b e => nU b (by rw [w.tk q z b e]; omega) (by rw [w.tk q z b e]; omega))
    · rw [z]; exact hla.ext he (fun b e => nU b (by rw [h0 b e]; omega) (by rw [h0 b e]; omega))
  · rw [tn b (w.mv.t.lt hb) (by rw [w.tF b hb]; omega)]; exact w.tF b hb
  · rw [tn b (w.mv.lt b hb) (by rw [w.tG b hb]; omega)]; exact w.tG b hb
  · rw [tn b (w.lm.lt hb) (by rw [w.tq b hb]; omega)]; exact w.tq b hb
  · rw [tn b (w.rg.lt e) (by rw [w.tr b e]; omega)]; exact w.tr b e
  · by_cases q : b < h.size
    · rcases hb b e with q2 | q2
      · rw [tn b q (by rw [w.tm b q2]; omega)]; exact w.tm b q2
      · omega
    · exact t8 b (by omega) e
  · rcases hk q hq with z | z
    · rw [tn b ((w.kp q z).1.lt e) (by rw [w.tk q z b e]; omega)]; exact w.tk q z b e
    · rw [z] at e; exact t9 b e
  · have := he.1
    exact t0 b (by omega) (fun z => by have := (OwnR.blk2 hm z).2; omega)
  · have hh := w.hb
    rw [tl b (by omega) (fun z => by have := hlb b z; omega)]; exact w.lo b hb
end ui
/-! ### sound trails stay sound -/
theorem sn_add {cl : Nat → Option (List Int)} {L : List It} (h : Sn cl L) (xs : List Int) (le : Bool) : Sn (addS cl xs le) L := by
  unfold addS
  split
  · rename_i hz
    cases e : frI cl (loI le) (nI le) with
    | none => exact h
    | some k =>
      have hn := (frI_some _ _ e).2.2.1
      exact h.mono (fun i x hx id c h1 h2 h3 => by
        have : id ≠ k := fun q => by rw [q, hn] at h2; cases h2
        simp only []; rw [upO_ne this]; exact h2)
  · exact h
theorem sn_rem {cl : Nat → Option (List Int)} {s : TS} (hok : Ok s) (h : Sn cl s.L) (id : Int) : Sn (remS cl s id) s.L := by
  by_cases hr : remV cl s id = 0
  · unfold remS; rw [if_pos hr]
    unfold remV at hr
    cases e : liveC cl id with
    | none => rw [e] at hr; cases hr
    | some c =>
      rw [e] at hr
      simp only [] at hr
      obtain ⟨n, c2, rfl, n1, n2, n3⟩ := liveS (cl := cl) (id := id) (by rw [e]; rfl)
      rw [e] at n3; cases n3
      rw [Int.toNat_natCast] at hr ⊢
      split at hr
      · cases hr
      · rename_i hlk
        refine h.mono (fun i x hx id c h1 h2 h3 => ?_)
        by_cases q : id = n
        · exfalso; apply hlk
          subst q
          rw [n2] at h2; cases h2
          obtain ⟨_, _, _, e4, e5⟩ := lt_at hok hx
          refine lockB_yes h3 ?_
          unfold lockL
          have hv : valO s x.lit = 1 := by
            have hm : x.lit ∈ lits s.L := mem_idx.2 ⟨i, lits_at hx⟩
            rcases vO3 (s := s) e5 with z | z | z
            · exact z.1
            · exact absurd z.2 (con_lits hok _ hm)
            · exact absurd hm z.2.1
          rw [hv, e4, h1]; simp
        · rw [upO_ne q]; exact h2
  · unfold remS; rw [if_neg hr]; exact h
theorem sn_dec {cl : Nat → Option (List Int)} {s : TS} (hok : Ok s) (h : Sn cl s.L) (x : Int) : Sn cl (decS s x).L := by
  unfold decS; split
  · exact h.app hok.lv (by simp only []; omega) (.inl ⟨rfl, rfl, by omega⟩)
  · exact h
theorem sn_bj {cl : Nat → Option (List Int)} {s : TS} (hok : Ok s) (h : Sn cl s.L) (j : Int) : Sn cl (bjS s j).L := by
  unfold bjS; split
  · exact h.take hok.lv _
  · exact h
theorem sn_chn {cl : Nat → Option (List Int)} {L L' : List It} {k : Nat} {b : Int} (h : Sn cl L) (hl : Lv L b (k : Int)) (hc : Chn cl k L L') : Sn cl L' := fun i x hx => by
  rcases Nat.lt_or_ge i L.length with q | q
  · have hi : L[i]? = some x := by rw [← hc.at q]; exact hx
    have ht : L'.take i = L.take i := by
      have := hc.2.1
      rw [← this, List.take_take, Nat.min_eq_left (by omega)]
    rcases h i x hi with z | z
    · left
      refine ⟨z.1, ?_, z.2.2⟩
      have hxl := (Lv_le hl).2 x (List.mem_of_getElem? hi)
      have hL : L' = L ++ L'.drop L.length := by
        have := List.take_append_drop L.length L'
        rw [hc.2.1] at this; exact this.symm
      unfold cnt
      rw [hL, List.filter_append, List.length_append]
      have hd : (L'.drop L.length).filter (fun y => decide (y.lev < x.lev)) = [] := by
        rw [List.filter_eq_nil_iff]
        intro y hy
        obtain ⟨n, hn⟩ := List.mem_iff_getElem?.1 hy
        rw [List.getElem?_drop] at hn
        have := (hc.2.2 (L.length + n) y (by omega) hn).1
        simp; omega
      rw [hd]
      have := z.2.1
      unfold cnt at this
      simpa using this
    · right; rw [ht]; exact z
  · exact .inr (hc.2.2 i x q hx).2
end Go.Proofs.Qxb6500400aGreat
