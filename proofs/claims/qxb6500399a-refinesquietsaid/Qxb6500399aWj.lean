import Derived.Test.Qxb6500399aWi
set_option linter.unusedVariables false
set_option linter.unusedSimpArgs false
namespace Go.Proofs.Qxb6500399a
open Go.Eng Go.Cnf

theorem rest_len {s : ByteArray} : (parseF s).2.2.length ≤ 27263002 := by
  unfold parseF
  split
  · simp
  · rename_i hs
    unfold outF
    have := run_len (f := bx s) (s.size + 1) 0 p0
    rw [show p0.arena.length = 0 from rfl] at this
    split
    · simp
    · split
      · simp
      · simp only; omega

structure DS where
  text : ByteArray
  ra : Option Addr
  rc : Nat
  rg : List Int
  last : ByteArray
  pa : Option Addr
  pc : Nat
  pl : List Int
  ma : Option Addr
  mc : Nat
  mine : List (Option Addr × Nat)
def dcs (t : DS) : Array Value := #[.string t.text, .slice t.ra t.rg.length t.rc, .string t.last, .slice t.pa t.pl.length t.pc, .slice t.ma t.mine.length t.mc]
/-- all that holds between two ops -/
structure WI (base : Nat) (h : Heap) (tg : Nat → Nat) (X M D : Nat) (a : Option Addr) (cap : Nat) (t : DS) : Prop where
  P : Par h X a cap p0
  mm : ∃ u w, B h M #[.int .i64 u, .int .i64 w] 48
  dd : B h D (dcs t) 38
  rg : IL h t.ra t.rc t.rg
  pr : IL h t.pa t.pc t.pl
  mi : MI h t.ma t.mc t.mine
  kp : ∀ q ∈ t.mine, Kp h q
  tX : tg X = 1
  tA : ∀ b, blkA a = some b → tg b = 1
  tM : tg M = 2
  tD : tg D = 3
  tm : ∀ b, blkA t.ma = some b → tg b = 4
  tr : ∀ b, blkA t.ra = some b → tg b = 5
  tp : ∀ b, blkA t.pa = some b → tg b = 6
  tk : ∀ q ∈ t.mine, ∀ b, blkA q.1 = some b → tg b = 7
  lo : ∀ b, tg b ≠ 0 → base ≤ b ∧ b < h.size
  hb : base ≤ h.size
  ml : t.mine.length ≤ 16
  rl : t.rg.length ≤ 30000000
  lp : parseF t.last = (0, 0, t.pl)
  tx : t.text.size ≤ 1048577
section wi
variable {base : Nat} {h h' : Heap} {tg : Nat → Nat} {X M D : Nat} {a : Option Addr} {cap : Nat} {t : DS}
/-- something else turned -/
theorem WI.ext {S : Nat → Prop} (w : WI base h tg X M D a cap t) (he : Ext S h h') (hS : ∀ b, S b → tg b = 0) : WI base h' tg X M D a cap t := by
  have nz : ∀ {b k : Nat}, tg b = k + 1 → ¬ S b := fun e hs => by have := hS _ hs; omega
  obtain ⟨u, v, hm⟩ := w.mm
  exact ⟨w.P.ext he (nz w.tX) (fun b hb => nz (w.tA b hb)), ⟨u, v, hm.ext he (nz w.tM)⟩, w.dd.ext he (nz w.tD), w.rg.ext he (fun b hb => nz (w.tr b hb)), w.pr.ext he (fun b hb => nz (w.tp b hb)), w.mi.ext he (fun b hb => nz (w.tm b hb)), fun q hq => (w.kp q hq).ext he (fun b hb => nz (w.tk q hq b hb)),
    w.tX, w.tA, w.tM, w.tD, w.tm, w.tr, w.tp, w.tk, fun b hb => ⟨(w.lo b hb).1, Nat.lt_of_lt_of_le (w.lo b hb).2 he.1⟩, Nat.le_trans w.hb he.1, w.ml, w.rl, w.lp, w.tx⟩
/-- the parser turned -/
theorem WI.par {a' : Option Addr} {cap' : Nat} (w : WI base h tg X M D a cap t) (hx : PEx X h h' a a') (hP : Par h' X a' cap' p0) : ∃ tg', WI base h' tg' X M D a' cap' t ∧ (∀ b, b < h.size → tg' b = tg b) ∧ ∀ b, h.size ≤ b → tg' b ≠ 0 → blkA a' = some b := by
  have hS : ∀ b, (b = X ∨ blkA a = some b) → tg b = 1 := fun b e => by rcases e with e | e; exact e ▸ w.tX; exact w.tA b e
  have nz : ∀ {b k : Nat}, tg b = k + 2 → ¬ (b = X ∨ blkA a = some b) := fun e hs => by have := hS _ hs; omega
  obtain ⟨u, v, hm⟩ := w.mm
  refine ⟨fun b => if b < h.size then tg b else if blkA a' = some b then 1 else 0, ⟨hP, ⟨u, v, hm.ext hx.1 (nz w.tM)⟩, w.dd.ext hx.1 (nz w.tD), w.rg.ext hx.1 (fun b hb => nz (w.tr b hb)), w.pr.ext hx.1 (fun b hb => nz (w.tp b hb)), w.mi.ext hx.1 (fun b hb => nz (w.tm b hb)), fun q hq => (w.kp q hq).ext hx.1 (fun b hb => nz (w.tk q hq b hb)), ?_, ?_, ?_, ?_, ?_, ?_, ?_, ?_, ?_, ?_, w.ml, w.rl, w.lp, w.tx⟩, ?_, ?_⟩
  · simp only [w.P.s.lt, if_true]; exact w.tX
  · intro b hb
    split
    · rename_i hlt
      rcases hx.2 b hb with e | e
      · exact w.tA b e
      · omega
    · simp [hb]
  · simp only [hm.lt, if_true]; exact w.tM
  · simp only [w.dd.lt, if_true]; exact w.tD
  · intro b hb; have : b < h.size := (OwnR.blk2 w.mi hb).2; simp only [this, if_true]; exact w.tm b hb
  · intro b hb; have : b < h.size := w.rg.lt hb; simp only [this, if_true]; exact w.tr b hb
  · intro b hb; have : b < h.size := w.pr.lt hb; simp only [this, if_true]; exact w.tp b hb
  · intro q hq b hb; have : b < h.size := (w.kp q hq).1.lt hb; simp only [this, if_true]; exact w.tk q hq b hb
  · intro b hb
    split at hb
    · rename_i hlt; have := w.lo b hb; have := hx.1.1; omega
    · split at hb
      · rename_i h1 h2; have := hP.ar.lt h2; have := w.hb; omega
      · exact absurd rfl hb
  · have := w.hb; have := hx.1.1; omega
  · intro b hb; simp [hb]
  · intro b hb hn
    try simp only at hn
    rw [if_neg (by omega)] at hn
    split at hn
    · assumption
    · exact absurd rfl hn
/-- the model turned -/
theorem WI.mod (w : WI base h tg X M D a cap t) (he : Ext (fun b => b = M) h h') (hm : ∃ u v, B h' M #[.int .i64 u, .int .i64 v] 48) : WI base h' tg X M D a cap t := by
  have nz : ∀ {b k : Nat}, tg b = k → k ≠ 2 → ¬ b = M := fun e hk hs => by subst hs; exact hk (e.symm.trans w.tM)
  exact ⟨w.P.ext he (nz w.tX (by omega)) (fun b hb => nz (w.tA b hb) (by omega)), hm, w.dd.ext he (nz w.tD (by omega)), w.rg.ext he (fun b hb => nz (w.tr b hb) (by omega)), w.pr.ext he (fun b hb => nz (w.tp b hb) (by omega)), w.mi.ext he (fun b hb => nz (w.tm b hb) (by omega)), fun q hq => (w.kp q hq).ext he (fun b hb => nz (w.tk q hq b hb) (by omega)),
    w.tX, w.tA, w.tM, w.tD, w.tm, w.tr, w.tp, w.tk, fun b hb => ⟨(w.lo b hb).1, Nat.lt_of_lt_of_le (w.lo b hb).2 he.1⟩, Nat.le_trans w.hb he.1, w.ml, w.rl, w.lp, w.tx⟩
theorem WI.z {b : Nat} (w : WI base h tg X M D a cap t) (hb : h.size ≤ b) : tg b = 0 := by
  by_cases e : tg b = 0
  · exact e
  · have := (w.lo b e).2; omega
theorem WI.low {b k : Nat} (w : WI base h tg X M D a cap t) (hb : tg b = k + 1) : base ≤ b := (w.lo b (by omega)).1
theorem WI.parE {a' : Option Addr} (w : WI base h tg X M D a cap t) (hx : PEx X h h' a a') : Ext (fun b => base ≤ b) h h' :=
  hx.1.mono fun b e => by
    rcases e with e | e
    · exact e ▸ w.low w.tX
    · exact w.low (w.tA b e)
theorem WI.modE (w : WI base h tg X M D a cap t) (he : Ext (fun b => b = M) h h') : Ext (fun b => base ≤ b) h h' := he.mono fun _ e => e ▸ w.low w.tM
theorem dcs_eq {cs : Array Value} (hz : cs.size = (dcs t).size) (hi : ∀ i, i ≠ 4 → cs[i]? = (dcs t)[i]?) {ma : Option Addr} {mc : Nat} {mine : List (Option Addr × Nat)} (h4 : cs[4]? = some (.slice ma mine.length mc)) : cs = dcs { t with ma := ma, mc := mc, mine := mine } := by
  apply Array.ext_getElem?
  intro i
  by_cases e : i = 4
  · subst e; rw [h4]; rfl
  · rw [hi i e]
    by_cases h5 : i < 5
    · have : i = 0 ∨ i = 1 ∨ i = 2 ∨ i = 3 := by omega
      rcases this with e | e | e | e <;> subst e <;> rfl
    · rw [Array.getElem?_eq_none (by simp [dcs]; omega), Array.getElem?_eq_none (by simp [dcs]; omega)]
/-- a list was stamped and kept -/
theorem WI.keep {la ma : Option Addr} {mc : Nat} {mine : List (Option Addr × Nat)} {cs : Array Value} (w : WI base h tg X M D a cap t) (hla : ∀ b, blkA la = some b → tg b = 0 ∧ base ≤ b ∧ b < h.size)
    (hB : B h' D cs 38) (hz : cs.size = (dcs t).size) (hi : ∀ i, i ≠ 4 → cs[i]? = (dcs t)[i]?) (h4 : cs[4]? = some (.slice ma mine.length mc)) (hmi : MI h' ma mc mine) (hk : ∀ q ∈ mine, Kp h' q ∧ (q ∈ t.mine ∨ q.1 = la)) (hml : mine.length ≤ 16)
    (he : Ext (fun b => b = D ∨ blkA t.ma = some b ∨ blkA la = some b) h h') (hma : ∀ b, blkA ma = some b → blkA t.ma = some b ∨ h.size ≤ b) :
    ∃ tg', WI base h' tg' X M D a cap { t with ma := ma, mc := mc, mine := mine } ∧ (∀ b, b < h.size → blkA la ≠ some b → tg' b = tg b) ∧ Ext (fun b => base ≤ b) h h' := by
  have hS : ∀ b, (b = D ∨ blkA t.ma = some b ∨ blkA la = some b) → tg b = 3 ∨ tg b = 4 ∨ tg b = 0 := fun b e => by
    rcases e with e | e | e
    · exact .inl (e ▸ w.tD)
    · exact .inr (.inl (w.tm b e))
    · exact .inr (.inr (hla b e).1)
  have nz : ∀ {b : Nat}, (tg b ≠ 3 ∧ tg b ≠ 4 ∧ tg b ≠ 0) → ¬ (b = D ∨ blkA t.ma = some b ∨ blkA la = some b) := fun hn hs => by have := hS _ hs; omega
  have nl : ∀ {b k : Nat}, tg b = k + 1 → blkA la ≠ some b := fun hn e => by have := (hla _ e).1; omega
  have go : ∀ {b k : Nat}, b < h.size → tg b = k + 1 → (if blkA la = some b then 7 else if b < h.size then tg b else if blkA ma = some b then 4 else 0) = k + 1 := fun hb hk => by rw [if_neg (nl hk), if_pos hb, hk]
  obtain ⟨u, v, hm⟩ := w.mm
  refine ⟨fun b => if blkA la = some b then 7 else if b < h.size then tg b else if blkA ma = some b then 4 else 0, ⟨w.P.ext he (nz (by rw [w.tX]; omega)) (fun b hb => nz (by rw [w.tA b hb]; omega)), ⟨u, v, hm.ext he (nz (by rw [w.tM]; omega))⟩, hB.cong (dcs_eq hz hi h4), w.rg.ext he (fun b hb => nz (by rw [w.tr b hb]; omega)), w.pr.ext he (fun b hb => nz (by rw [w.tp b hb]; omega)), hmi, fun q hq => (hk q hq).1, ?_, ?_, ?_, ?_, ?_, ?_, ?_, ?_, ?_, ?_, hml, w.rl, w.lp, w.tx⟩, ?_, ?_⟩
  · exact go w.P.s.lt w.tX
  · exact fun b hb => go (w.P.ar.lt hb) (w.tA b hb)
  · exact go hm.lt w.tM
  · exact go w.dd.lt w.tD
  · intro b hb
    rcases hma b hb with e | e
    · exact go (OwnR.blk2 w.mi e).2 (w.tm b e)
    · have hn : blkA la ≠ some b := fun f => by have := (hla b f).2.2; omega
      simp only [hn, if_false, if_neg (show ¬ b < h.size by omega)]; rw [if_pos hb]
  · exact fun b hb => go (w.rg.lt hb) (w.tr b hb)
  · exact fun b hb => go (w.pr.lt hb) (w.tp b hb)
  · intro q hq b hb
    rcases (hk q hq).2 with e | e
    · exact go ((w.kp q e).1.lt hb) (w.tk q e b hb)
    · rw [e] at hb; simp only [hb, if_true]
  · intro b hb
    have h1 := he.1
    try simp only at hb
    split at hb
    · rename_i f; have := hla b f; omega
    · split at hb
      · rename_i f; have := w.lo b hb; omega
      · split at hb
        · rename_i f; have := (OwnR.blk2 hmi f).2; have := w.hb; omega
        · exact absurd rfl hb
  · have := w.hb; have := he.1; omega
  · intro b hb hn; simp only [hn, if_false, hb, if_true]
  · exact he.mono fun b e => by
      rcases e with e | e | e
      · exact e ▸ w.low w.tD
      · exact w.low (w.tm b e)
      · exact (hla b e).2.1
/-- the desk turned -/
theorem WI.desk {t' : DS} {tg' : Nat → Nat} (w : WI base h tg X M D a cap t) (he : Ext (fun b => b = D ∨ tg b = 5) h h') (hB : B h' D (dcs t') 38) (hma : t'.ma = t.ma ∧ t'.mc = t.mc ∧ t'.mine = t.mine)
    (htg : ∀ b, tg' b ≠ tg b → base ≤ b ∧ b < h'.size ∧ (tg b = 0 ∨ tg b = 5)) (hrg : IL h' t'.ra t'.rc t'.rg) (htr : ∀ b, blkA t'.ra = some b → tg' b = 5) (hpr : IL h' t'.pa t'.pc t'.pl) (htp : ∀ b, blkA t'.pa = some b → tg' b = 6) (hrl : t'.rg.length ≤ 30000000) (hlp : parseF t'.last = (0, 0, t'.pl)) (htx : t'.text.size ≤ 1048577) :
    WI base h' tg' X M D a cap t' ∧ Ext (fun b => base ≤ b) h h' := by
  have keep : ∀ {b k : Nat}, tg b = k + 1 → k ≠ 4 → tg' b = k + 1 := fun {b k} e hk => by
    by_cases f : tg' b = tg b
    · rw [f, e]
    · have := (htg b f).2.2; omega
  have nz : ∀ {b : Nat}, (tg b ≠ 3 ∧ tg b ≠ 5) → ¬ (b = D ∨ tg b = 5) := fun hn hs => by
    rcases hs with e | e
    · exact hn.1 (e ▸ w.tD)
    · exact hn.2 e
  obtain ⟨u, v, hm⟩ := w.mm
  obtain ⟨e1, e2, e3⟩ := hma
  refine ⟨⟨w.P.ext he (nz (by rw [w.tX]; omega)) (fun b hb => nz (by rw [w.tA b hb]; omega)), ⟨u, v, hm.ext he (nz (by rw [w.tM]; omega))⟩, hB, hrg, hpr, ?_, ?_, keep w.tX (by omega), fun b hb => keep (w.tA b hb) (by omega), keep w.tM (by omega), keep w.tD (by omega), ?_, htr, htp, ?_, ?_, ?_, ?_, hrl, hlp, htx⟩, ?_⟩
  · rw [e1, e2, e3]; exact w.mi.ext he (fun b hb => nz (by rw [w.tm b hb]; omega))
  · rw [e3]; exact fun q hq => (w.kp q hq).ext he (fun b hb => nz (by rw [w.tk q hq b hb]; omega))
  · rw [e1]; exact fun b hb => keep (w.tm b hb) (by omega)
  · rw [e3]; exact fun q hq b hb => keep (w.tk q hq b hb) (by omega)
  · intro b hb
    by_cases f : tg' b = tg b
    · rw [f] at hb; have := w.lo b hb; have := he.1; omega
    · have := htg b f; omega
  · have := w.hb; have := he.1; omega
  · rw [e3]; exact w.ml
  · exact he.mono fun b e => by
      rcases e with e | e
      · exact e ▸ w.low w.tD
      · exact w.low e
end wi
section wk
variable {base : Nat} {h h' : Heap} {tg : Nat → Nat} {X M D : Nat} {a : Option Addr} {cap : Nat} {t : DS}
theorem WI.nD {b k : Nat} (w : WI base h tg X M D a cap t) (e : tg b = k) (hk : k ≠ 3) : ¬ b = D := fun f => by subst f; exact hk (e.symm.trans w.tD)
theorem WI.setText {r : ByteArray} (w : WI base h tg X M D a cap t) (he : Ext (fun b => b = D) h h') (hB : B h' D (dcs { t with text := r }) 38) (hr : r.size ≤ 1048577) : WI base h' tg X M D a cap { t with text := r } ∧ Ext (fun b => base ≤ b) h h' :=
  w.desk (he.mono fun _ e => .inl e) hB ⟨rfl, rfl, rfl⟩ (fun _ e => absurd rfl e) (w.rg.ext he fun b hb => w.nD (w.tr b hb) (by omega)) w.tr (w.pr.ext he fun b hb => w.nD (w.tp b hb) (by omega)) w.tp w.rl w.lp hr
theorem WI.setReg {ra : Option Addr} {rc : Nat} {ys : List Int} (w : WI base h tg X M D a cap t) (he : Ext (fun b => b = D ∨ blkA t.ra = some b) h h') (hB : B h' D (dcs { t with ra := ra, rc := rc, rg := ys }) 38) (hrg : IL h' ra rc ys) (hn : ∀ b, blkA ra = some b → tg b = 5 ∨ (tg b = 0 ∧ base ≤ b)) (hl : ys.length ≤ 30000000) :
    ∃ tg', WI base h' tg' X M D a cap { t with ra := ra, rc := rc, rg := ys } ∧ (∀ b, blkA ra ≠ some b → tg' b = tg b) ∧ Ext (fun b => base ≤ b) h h' := by
  have := w.desk (t' := { t with ra := ra, rc := rc, rg := ys }) (tg' := fun b => if blkA ra = some b then 5 else tg b) (he.mono fun b e => by rcases e with e | e; exact .inl e; exact .inr (w.tr b e)) hB ⟨rfl, rfl, rfl⟩ ?_ hrg ?_ (w.pr.ext he fun b hb e => ?_) ?_ hl w.lp w.tx
  · exact ⟨_, this.1, fun b hb => by simp only [hb, if_false], this.2⟩
  · intro b hb
    by_cases f : blkA ra = some b
    · have hlt := hrg.lt f
      rcases hn b f with g | g
      · exact ⟨w.low g, hlt, .inr g⟩
      · exact ⟨g.2, hlt, .inl g.1⟩
    · simp only [f, if_false] at hb; exact absurd rfl hb
  · intro b hb; simp only [show blkA ra = some b from hb, if_true]
  · rcases e with e | e
    · exact w.nD (w.tp b hb) (by omega) e
    · have := w.tp b hb; have := w.tr b e; omega
  · intro b hb
    have h6 := w.tp b hb
    have f : blkA ra ≠ some b := fun f => by have := hn b f; omega
    simp only [f, if_false]; exact h6
theorem WI.setPr {fa : Option Addr} {fc : Nat} {xs : List Int} {r : ByteArray} (w : WI base h tg X M D a cap t) (h0 : t.ra = none) (he : Ext (fun b => b = D) h h') (hB : B h' D (dcs { t with last := r, pa := fa, pc := fc, pl := xs }) 38) (hf : IL h fa fc xs) (h5 : ∀ b, blkA fa = some b → tg b = 5) (hp : parseF r = (0, 0, xs)) :
    ∃ tg', WI base h' tg' X M D a cap { t with last := r, pa := fa, pc := fc, pl := xs } ∧ Ext (fun b => base ≤ b) h h' := by
  have := w.desk (t' := { t with last := r, pa := fa, pc := fc, pl := xs }) (tg' := fun b => if blkA fa = some b then 6 else tg b) (he.mono fun b e => .inl e) hB ⟨rfl, rfl, rfl⟩ ?_ (w.rg.ext he fun b hb => w.nD (w.tr b hb) (by omega)) ?_ (hf.ext he fun b hb => w.nD (h5 b hb) (by omega)) ?_ w.rl hp w.tx
  · exact ⟨_, this⟩
  · intro b hb
    by_cases f : blkA fa = some b
    · exact ⟨w.low (h5 b f), Nat.lt_of_lt_of_le (hf.lt f) he.1, .inr (h5 b f)⟩
    · simp only [f, if_false] at hb; exact absurd rfl hb
  · intro b hb; simp only [h0] at hb; simp [blkA] at hb
  · intro b hb; simp only [show blkA fa = some b from hb, if_true]
theorem printF_ok {xs : List Int} (e : (printF xs).2 = 0) : parseF (printF xs).1 = (0, 0, xs) := by
  unfold printF at e ⊢
  split
  · rename_i f; rw [if_pos f] at e; cases e
  · rename_i f; rw [if_neg f] at e
    split
    · rename_i g; exact round g (by omega)
    · rename_i g; rw [if_neg g] at e; cases e
theorem printF_good {xs : List Int} (e : flatOk xs = true) (hl : xs.length ≤ 262144) : (printF xs).2 = 0 := by
  unfold printF
  rw [if_neg (by omega), if_pos e]
end wk
set_option maxHeartbeats 400000 in
theorem sameparsed_spec (h : Heap) (e p : Int) (a b : Option Addr) (xs : List Int) (ha : IL h a xs.length xs) (hb : IL h b xs.length xs) (hl : xs.length ≤ 1000000000) :
    FC Try.prog 22 (#[.agg #[.int .i64 e, .int .i64 p, .slice a xs.length xs.length], .agg #[.int .i64 e, .int .i64 p, .slice b xs.length xs.length]] : Array Value) h fun v h' => v = .bool true ∧ Ext (fun _ => False) h h' := by
  refine FC_of [(0, .agg #[.int .i64 e, .int .i64 p, .slice a xs.length xs.length]), (1, .agg #[.int .i64 e, .int .i64 p, .slice b xs.length xs.length])] Try.func22 rfl Try.ntmps22 (by simp) rfl (fun R hR => ?_)
  refine V_sr T.mix (by kernel_rfl) (fun K1 hK1 => ?_)
  refine S_boxA rfl ?_
  generalize hh : Array.push h _ = h1
  have hA : B h1 h.size #[.int .i64 e, .int .i64 p, .slice a xs.length xs.length] 51 := by rw [← hh]; exact B.new _ _ _
  have hEh1 : Ext (fun _ => False) h h1 := by rw [← hh]; exact Ext.push _ _ _
  clear hh
  refine S_boxA rfl ?_
  generalize hh : Array.push h1 _ = h2
  have hB : B h2 h1.size #[.int .i64 e, .int .i64 p, .slice b xs.length xs.length] 51 := by rw [← hh]; exact B.new _ _ _
  have hEh2 : Ext (fun _ => False) h1 h2 := by rw [← hh]; exact Ext.push _ _ _
  clear hh
  replace hA := hA.ext hEh2 (fun f => f)
  have hE := hEh1.trans hEh2
  have a0 : cellH h2 ⟨h.size, 0, none⟩ = some (.int .i64 e) := hA.cell 0
  have a1 : cellH h2 ⟨h.size, 1, none⟩ = some (.int .i64 p) := hA.cell 1
  have a2 : cellH h2 ⟨h.size, 2, none⟩ = some (.slice a xs.length xs.length) := hA.cell 2
  have b0 : cellH h2 ⟨h1.size, 0, none⟩ = some (.int .i64 e) := hB.cell 0
  have b1 : cellH h2 ⟨h1.size, 1, none⟩ = some (.int .i64 p) := hB.cell 1
  have b2 : cellH h2 ⟨h1.size, 2, none⟩ = some (.slice b xs.length xs.length) := hB.cell 2
  refine S_as rfl ?_
  refine S_nil (hK1 _ _ (V_keep [2, 3] (by simp only [proj, lk, reduceIte, Nat.reduceEqDiff]; rfl) ?_)); clear hK1
  refine V_seq (fun K2 hK2 => ?_)
  refine V_sr T.mix (by kernel_rfl) (fun K3 hK3 => ?_)
  first | refine S_fa0 T.f51_0 rfl ?_ | refine S_fa T.f51_0 rfl ?_
  refine S_ldK T.ag44 rfl (fun K' hK' => ?_)
  simp (disch := omega) only [a0, a1, a2, b0, b1, b2, oP_some, Nat.add_zero]
  refine hK' _ ?_; clear hK' K'
  first | refine S_fa0 T.f51_0 rfl ?_ | refine S_fa T.f51_0 rfl ?_
  refine S_ldK T.ag44 rfl (fun K' hK' => ?_)
  simp (disch := omega) only [a0, a1, a2, b0, b1, b2, oP_some, Nat.add_zero]
  refine hK' _ ?_; clear hK' K'
  refine S_bin rfl rfl rfl ?_
  refine S_mv rfl ?_
  refine S_dec (fun g94 => ?_) (fun g94 => ?_)
  · skip
    exfalso; exact g94 rfl
  · skip
    refine S_gt rfl ?_
    first | refine S_fa0 T.f51_1 rfl ?_ | refine S_fa T.f51_1 rfl ?_
    refine S_gt rfl ?_
    refine S_ldK T.ag3 rfl (fun K' hK' => ?_)
    simp (disch := omega) only [a0, a1, a2, b0, b1, b2, oP_some, Nat.add_zero]
    refine hK' _ ?_; clear hK' K'
    refine S_gt rfl ?_
    first | refine S_fa0 T.f51_1 rfl ?_ | refine S_fa T.f51_1 rfl ?_
    refine S_gt rfl ?_
    refine S_ldK T.ag3 rfl (fun K' hK' => ?_)
    simp (disch := omega) only [a0, a1, a2, b0, b1, b2, oP_some, Nat.add_zero]
    refine hK' _ ?_; clear hK' K'
    refine S_gt rfl ?_
    refine S_bin rfl rfl rfl ?_
    refine S_pf rfl rfl ?_
    refine S_nil (hK3 _ _ (V_keep [2, 3, 16] (by simp only [proj, lk, reduceIte, Nat.reduceEqDiff]; rfl) ?_)); clear hK3
    refine V_condp rfl (fun c94 => ?_) (fun c94 => ?_)
    · skip
      exfalso; exact c94 rfl
    · skip
      refine V_skipk [2, 3] (by simp only [proj, lk, reduceIte, Nat.reduceEqDiff]; rfl) ?_
      refine hK2 _ _ ?_; clear hK2
      refine V_sr T.mix (by kernel_rfl) (fun K4 hK4 => ?_)
      first | refine S_fa0 T.f51_2 rfl ?_ | refine S_fa T.f51_2 rfl ?_
      refine S_ldK T.ag35 rfl (fun K' hK' => ?_)
      simp (disch := omega) only [a0, a1, a2, b0, b1, b2, oP_some, Nat.add_zero]
      refine hK' _ ?_; clear hK' K'
      first | refine S_fa0 T.f51_2 rfl ?_ | refine S_fa T.f51_2 rfl ?_
      refine S_ldK T.ag35 rfl (fun K' hK' => ?_)
      simp (disch := omega) only [a0, a1, a2, b0, b1, b2, oP_some, Nat.add_zero]
      refine hK' _ ?_; clear hK' K'
      refine S_call T.hb17 rfl ?_
      refine FC.mono (sameints_spec h2 a b _ _ xs xs (ha.ext hE (fun _ _ f => f)) (hb.ext hE (fun _ _ f => f)) (by omega) (by omega)) ?_
      rintro v h' ⟨rfl, rfl⟩
      refine S_as rfl ?_
      refine S_nil (hK4 _ _ (V_keep [4] (by simp only [proj, lk, reduceIte, Nat.reduceEqDiff]; rfl) ?_)); clear hK4
      refine V_ret ?_
      refine hR _ _ (ret1 rfl rfl ?_)
      exact ⟨by simp, hE⟩
set_option maxHeartbeats 400000 in
theorem normal_spec (h : Heap) (s : ByteArray) (a : Option Addr) (ha : IL h a (parseF s).2.2.length (parseF s).2.2) (hn : (parseF s).2.2.length = 0 → a = none) :
    FC Try.prog 24 (#[.agg #[.int .i64 (parseF s).1, .int .i64 (parseF s).2.1, .slice a (parseF s).2.2.length (parseF s).2.2.length], .string s] : Array Value) h fun v h' => v = .bool true ∧ Ext (fun _ => False) h h' := by
  have hrl := rest_len (s := s)
  refine FC_of [(0, .agg #[.int .i64 (parseF s).1, .int .i64 (parseF s).2.1, .slice a (parseF s).2.2.length (parseF s).2.2.length]), (1, .string s)] Try.func24 rfl Try.ntmps24 (by simp) rfl (fun R hR => ?_)
  refine V_sr T.mix (by kernel_rfl) (fun K1 hK1 => ?_)
  refine S_boxA rfl ?_
  generalize hh : Array.push h _ = h1
  have hA : B h1 h.size #[.int .i64 (parseF s).1, .int .i64 (parseF s).2.1, .slice a (parseF s).2.2.length (parseF s).2.2.length] 51 := by rw [← hh]; exact B.new _ _ _
  have hEh1 : Ext (fun _ => False) h h1 := by rw [← hh]; exact Ext.push _ _ _
  clear hh
  have a0 : cellH h1 ⟨h.size, 0, none⟩ = some (.int .i64 (parseF s).1) := hA.cell 0
  have a1 : cellH h1 ⟨h.size, 1, none⟩ = some (.int .i64 (parseF s).2.1) := hA.cell 1
  have a2 : cellH h1 ⟨h.size, 2, none⟩ = some (.slice a (parseF s).2.2.length (parseF s).2.2.length) := hA.cell 2
  refine S_as rfl ?_
  refine S_nil (hK1 _ _ (V_keep [1, 2] (by simp only [proj, lk, reduceIte, Nat.reduceEqDiff]; rfl) ?_)); clear hK1
  refine V_seq (fun K2 hK2 => ?_)
  refine V_sr T.mix (by kernel_rfl) (fun K3 hK3 => ?_)
  first | refine S_fa0 T.f51_0 rfl ?_ | refine S_fa T.f51_0 rfl ?_
  refine S_ldK T.ag44 rfl (fun K' hK' => ?_)
  simp (disch := omega) only [a0, a1, a2, oP_some, Nat.add_zero]
  refine hK' _ ?_; clear hK' K'
  refine S_bin rfl rfl rfl ?_
  refine S_nil (hK3 _ _ (V_keep [1, 2, 8] (by simp only [proj, lk, reduceIte, Nat.reduceEqDiff]; rfl) ?_)); clear hK3
  refine V_condp rfl (fun c102 => ?_) (fun c102 => ?_)
  · skip
    obtain ⟨he1, he2⟩ := parseF_err (s := s) (by omega)
    have han : a = none := hn (by rw [he2]; rfl)
    subst han
    refine V_sr T.mix (by kernel_rfl) (fun K4 hK4 => ?_)
    first | refine S_fa0 T.f51_2 rfl ?_ | refine S_fa T.f51_2 rfl ?_
    refine S_ldK T.ag35 rfl (fun K' hK' => ?_)
    simp (disch := omega) only [a0, a1, a2, oP_some, Nat.add_zero]
    refine hK' _ ?_; clear hK' K'
    refine S_bin rfl rfl (by simp only [binV, T.kd35]; rfl) ?_
    refine S_mv rfl ?_
    refine S_decb (fun g103 => ?_) (fun g103 => ?_)
    · skip
      refine S_gt rfl ?_
      first | refine S_fa0 T.f51_1 rfl ?_ | refine S_fa T.f51_1 rfl ?_
      refine S_gt rfl ?_
      refine S_ldK T.ag3 rfl (fun K' hK' => ?_)
      simp (disch := omega) only [a0, a1, a2, oP_some, Nat.add_zero]
      refine hK' _ ?_; clear hK' K'
      refine S_gt rfl ?_
      refine S_bin rfl rfl rfl ?_
      refine S_pt rfl rfl ?_
      refine S_mv rfl ?_
      refine S_dec (fun g103a => ?_) (fun g103a => ?_)
      · skip
        refine S_gt rfl ?_
        first | refine S_fa0 T.f51_1 rfl ?_ | refine S_fa T.f51_1 rfl ?_
        refine S_gt rfl ?_
        refine S_ldK T.ag3 rfl (fun K' hK' => ?_)
        simp (disch := omega) only [a0, a1, a2, oP_some, Nat.add_zero]
        refine hK' _ ?_; clear hK' K'
        refine S_gt rfl ?_
        refine S_mv rfl ?_
        refine S_gt rfl ?_
        refine S_lens T.kd9 rfl ?_
        refine S_gt rfl ?_
        refine S_bin rfl rfl rfl ?_
        refine S_pt rfl rfl ?_
        refine S_as rfl ?_
        refine S_nil (hK4 _ _ (V_keep [4] (by simp only [proj, lk, reduceIte, Nat.reduceEqDiff]; rfl) ?_)); clear hK4
        refine V_ret ?_
        refine hR _ _ (ret1 rfl rfl ?_)
        exact ⟨by rw [decide_eq_true (by omega)], hEh1⟩
      · skip
        exfalso; omega
    · skip
      cases g103
  · skip
    refine V_skipk [2] (by simp only [proj, lk, reduceIte, Nat.reduceEqDiff]; rfl) ?_
    refine hK2 _ _ ?_; clear hK2
    refine V_seq (fun K5 hK5 => ?_)
    refine V_sr T.mix (by kernel_rfl) (fun K6 hK6 => ?_)
    first | refine S_fa0 T.f51_1 rfl ?_ | refine S_fa T.f51_1 rfl ?_
    refine S_ldK T.ag3 rfl (fun K' hK' => ?_)
    simp (disch := omega) only [a0, a1, a2, oP_some, Nat.add_zero]
    refine hK' _ ?_; clear hK' K'
    refine S_bin rfl rfl rfl ?_
    refine S_nil (hK6 _ _ (V_keep [2, 26] (by simp only [proj, lk, reduceIte, Nat.reduceEqDiff]; rfl) ?_)); clear hK6
    refine V_condp rfl (fun c105 => ?_) (fun c105 => ?_)
    · skip
      exfalso; have := (parseF_ok (s := s) (by omega)).1; omega
    · skip
      refine V_skipk [2] (by simp only [proj, lk, reduceIte, Nat.reduceEqDiff]; rfl) ?_
      refine hK5 _ _ ?_; clear hK5
      refine V_sr T.mix (by kernel_rfl) (fun K7 hK7 => ?_)
      first | refine S_fa0 T.f51_2 rfl ?_ | refine S_fa T.f51_2 rfl ?_
      refine S_ldK T.ag35 rfl (fun K' hK' => ?_)
      simp (disch := omega) only [a0, a1, a2, oP_some, Nat.add_zero]
      refine hK' _ ?_; clear hK' K'
      refine S_call T.hb36 rfl ?_
      refine FC.mono (checkflat_spec h1 a _ (parseF s).2.2 (ha.ext hEh1 (fun _ _ f => f)) (by omega)) ?_
      rintro v h' ⟨rfl, rfl⟩
      refine S_as rfl ?_
      refine S_nil (hK7 _ _ (V_keep [5] (by simp only [proj, lk, reduceIte, Nat.reduceEqDiff]; rfl) ?_)); clear hK7
      refine V_sr T.mix (by kernel_rfl) (fun K8 hK8 => ?_)
      refine S_mv rfl ?_
      refine S_bin rfl rfl rfl ?_
      refine S_as rfl ?_
      refine S_nil (hK8 _ _ (V_keep [4] (by simp only [proj, lk, reduceIte, Nat.reduceEqDiff]; rfl) ?_)); clear hK8
      refine V_ret ?_
      refine hR _ _ (ret1 rfl rfl ?_)
      refine ⟨?_, hEh1⟩
      rw [if_pos (parseF_ok (s := s) (by omega)).2]
      rfl
set_option maxHeartbeats 400000 in
theorem sameparse_spec (base : Nat) (h : Heap) (tg : Nat → Nat) (X M D : Nat) (a : Option Addr) (cap : Nat) (t : DS) (w : WI base h tg X M D a cap t) (s : ByteArray) :
    FC Try.prog 13 (#[.pointer (some ⟨X, 0, none⟩), .pointer (some ⟨M, 0, none⟩), .pointer (some ⟨D, 0, none⟩), .string s] : Array Value) h fun v h' => ∃ fb tg' a' cap' t', v = .tuple #[.agg #[.int .i64 (parseF s).1, .int .i64 (parseF s).2.1, .slice fb (parseF s).2.2.length (parseF s).2.2.length], .bool true] ∧ IL h' fb (parseF s).2.2.length (parseF s).2.2 ∧ (∀ b, blkA fb = some b → tg' b = 0 ∧ base ≤ b) ∧ WI base h' tg' X M D a' cap' t' ∧ (t'.text = t.text ∧ t'.ra = t.ra ∧ t'.rc = t.rc ∧ t'.rg = t.rg ∧ t'.last = t.last ∧ t'.pa = t.pa ∧ t'.pc = t.pc ∧ t'.pl = t.pl) ∧ Ext (fun b => base ≤ b) h h' := by
  have hbs := w.hb
  have hrl := rest_len (s := s)
  refine FC_of [(0, .pointer (some ⟨X, 0, none⟩)), (1, .pointer (some ⟨M, 0, none⟩)), (2, .pointer (some ⟨D, 0, none⟩)), (3, .string s)] Try.func13 rfl Try.ntmps13 (by simp) rfl (fun R hR => ?_)
  refine V_sr T.mix (by kernel_rfl) (fun K1 hK1 => ?_)
  refine S_allocA T.z51 ?_
  generalize hh : Array.push h _ = hA
  have hR0 : B hA h.size #[.int .i64 0, .int .i64 0, .slice none 0 0] 51 := by rw [← hh]; exact B.new _ _ _
  have hEhA : Ext (fun _ => False) h hA := by rw [← hh]; exact Ext.push _ _ _
  clear hh
  have hz0 := w.z (Nat.le_refl _)
  replace w := w.ext hEhA (fun _ f => f.elim)
  have hE : Ext (fun b => base ≤ b) h hA := hEhA.mono fun _ f => f.elim
  have hsA := hR0.lt
  clear hEhA
  refine S_as rfl ?_
  refine S_nil (hK1 _ _ (V_keep [0, 1, 2, 3, 8] (by simp only [proj, lk, reduceIte, Nat.reduceEqDiff]; rfl) ?_)); clear hK1
  refine V_sr T.mix (by kernel_rfl) (fun K2 hK2 => ?_)
  refine S_mv rfl ?_
  refine S_mv rfl ?_
  refine S_call T.hb19 rfl ?_
  refine FC.mono (parse_spec hA X a cap w.P s) ?_
  rintro v h1 ⟨fl, a1, c1, rfl, hIL, hfn, hfb0, hP1, hX1⟩
  obtain ⟨tg1, w1, ht1, ht2⟩ := w.par hX1 hP1
  replace hE := hE.trans (w.parE hX1)
  replace hR0 := hR0.ext hX1.1 (fun e => by rcases e with e | e; (have := w.tX; rw [← e] at this; omega); (have := w.tA _ e; omega))
  replace hz0 : tg1 h.size = 0 := by rw [ht1 _ (by omega)]; exact hz0
  have hs1 := hX1.1.1
  have hfb : ∀ b, blkA fl = some b → tg1 b = 0 ∧ hA.size ≤ b ∧ b < h1.size := fun b hb => ⟨by by_cases e : tg1 b = 0; (exact e); (exact absurd (ht2 b (hfb0 b hb).1 e) (hfb0 b hb).2), (hfb0 b hb).1, hIL.lt hb⟩
  replace w := w1
  clear w1 hX1 hP1 ht1 ht2 hfb0
  refine S_allocA T.z51 ?_
  generalize hh : Array.push h1 _ = h2
  have hLA : B h2 h1.size #[.int .i64 0, .int .i64 0, .slice none 0 0] 51 := by rw [← hh]; exact B.new _ _ _
  have hEh2 : Ext (fun _ => False) h1 h2 := by rw [← hh]; exact Ext.push _ _ _
  clear hh
  have hz1 := w.z (Nat.le_refl _)
  replace w := w.ext hEh2 (fun _ f => f.elim)
  replace hE := hE.trans (hEh2.mono fun _ f => f.elim)
  replace hR0 := hR0.ext hEh2 (fun f => f)
  replace hIL := hIL.ext hEh2 (fun _ _ f => f)
  have hs2 := hLA.lt
  clear hEh2
  have hok1 : ∀ j, j < 3 → okPut h2 ⟨h1.size, j, none⟩ = true := fun j hj => hLA.ok (by simpa using hj)
  refine S_stl T.sz51 rfl rfl rfl rfl (fun j hj => by simp (disch := omega) only [hok1]) ?_
  generalize hh : putsH _ _ _ _ = h3
  replace hLA : B h3 h1.size #[.int .i64 (parseF s).1, .int .i64 (parseF s).2.1, .slice fl (parseF s).2.2.length (parseF s).2.2.length] 51 := by rw [← hh]; exact B.puts_all hLA (cs' := #[.int .i64 (parseF s).1, .int .i64 (parseF s).2.1, .slice fl (parseF s).2.2.length (parseF s).2.2.length]) rfl
  have hEh3 : Ext (fun k => k = h1.size) h2 h3 := by rw [← hh]; exact Ext.puts (S := fun k => k = h1.size) rfl _ _ _
  clear hh
  replace w := w.ext hEh3 (fun b e => by subst e; exact hz1)
  replace hE := hE.trans (hEh3.mono fun b (e : b = _) => by omega)
  replace hR0 := hR0.ext hEh3 (fun e => by omega)
  replace hIL := hIL.ext hEh3 (fun b hb e => by have := hfb b hb; omega)
  have hs3 := hEh3.1
  clear hEh3
  refine S_nil (hK2 _ _ (V_keep [1, 2, 3, 8, 10] (by simp only [proj, lk, reduceIte, Nat.reduceEqDiff]; rfl) ?_)); clear hK2
  refine V_sr T.mix (by kernel_rfl) (fun K3 hK3 => ?_)
  refine S_mv rfl ?_
  refine S_mv rfl ?_
  refine S_call T.hb20 rfl ?_
  obtain ⟨u, x, hMM⟩ := w.mm
  refine FC.mono (mparse_spec h3 M u x hMM s) ?_
  rintro v h4 ⟨cs, rfl, ⟨fb, hbb0, rfl, hIB, hbn⟩, hE4, hM4⟩
  have hzb : ∀ b, blkA fb = some b → tg1 b = 0 := fun b hb => w.z (hbb0 b hb)
  replace hE := hE.trans (w.modE hE4)
  have nM : ∀ b, tg1 b = 0 → ¬ b = M := fun b e f => by have := w.tM; rw [← f] at this; omega
  replace hR0 := hR0.ext hE4 (nM _ hz0)
  replace hLA := hLA.ext hE4 (nM _ hz1)
  replace hIL := hIL.ext hE4 (fun b hb => nM b (hfb b hb).1)
  have hs4 := hE4.1
  have hbb : ∀ b, blkA fb = some b → tg1 b = 0 ∧ h3.size ≤ b ∧ b < h4.size := fun b hb => ⟨hzb b hb, hbb0 b hb, hIB.lt hb⟩
  replace w := w.mod hE4 hM4
  clear hE4 hM4 hMM hzb hbb0
  refine S_allocA T.z51 ?_
  generalize hh : Array.push h4 _ = h5
  have hLB : B h5 h4.size #[.int .i64 0, .int .i64 0, .slice none 0 0] 51 := by rw [← hh]; exact B.new _ _ _
  have hEh5 : Ext (fun _ => False) h4 h5 := by rw [← hh]; exact Ext.push _ _ _
  clear hh
  have hz2 := w.z (Nat.le_refl _)
  replace w := w.ext hEh5 (fun _ f => f.elim)
  replace hE := hE.trans (hEh5.mono fun _ f => f.elim)
  replace hR0 := hR0.ext hEh5 (fun f => f)
  replace hLA := hLA.ext hEh5 (fun f => f)
  replace hIL := hIL.ext hEh5 (fun _ _ f => f)
  replace hIB := hIB.ext hEh5 (fun _ _ f => f)
  have hs5 := hLB.lt
  clear hEh5
  have hok2 : ∀ j, j < 3 → okPut h5 ⟨h4.size, j, none⟩ = true := fun j hj => hLB.ok (by simpa using hj)
  refine S_stl T.sz51 rfl rfl rfl rfl (fun j hj => by simp (disch := omega) only [hok2]) ?_
  generalize hh : putsH _ _ _ _ = h6
  replace hLB : B h6 h4.size #[.int .i64 (parseF s).1, .int .i64 (parseF s).2.1, .slice fb (parseF s).2.2.length (parseF s).2.2.length] 51 := by rw [← hh]; exact B.puts_all hLB (cs' := #[.int .i64 (parseF s).1, .int .i64 (parseF s).2.1, .slice fb (parseF s).2.2.length (parseF s).2.2.length]) rfl
  have hEh6 : Ext (fun k => k = h4.size) h5 h6 := by rw [← hh]; exact Ext.puts (S := fun k => k = h4.size) rfl _ _ _
  clear hh
  replace w := w.ext hEh6 (fun b e => by subst e; exact hz2)
  replace hE := hE.trans (hEh6.mono fun b (e : b = _) => by omega)
  replace hR0 := hR0.ext hEh6 (fun e => by omega)
  replace hLA := hLA.ext hEh6 (fun e => by omega)
  replace hIL := hIL.ext hEh6 (fun b hb e => by have := hfb b hb; omega)
  replace hIB := hIB.ext hEh6 (fun b hb e => by have := hbb b hb; omega)
  have hs6 := hEh6.1
  clear hEh6
  refine S_nil (hK3 _ _ (V_keep [2, 3, 8, 10, 11] (by simp only [proj, lk, reduceIte, Nat.reduceEqDiff]; rfl) ?_)); clear hK3
  refine V_seq (fun K4 hK4 => ?_)
  refine V_sr T.mix (by kernel_rfl) (fun K5 hK5 => ?_)
  refine S_mv rfl ?_
  refine S_call T.hb21 rfl ?_
  refine FC.mono (untouched_spec h6 D (dcs t) w.dd t.ma t.mc t.mine rfl w.mi w.kp w.ml) ?_
  rintro v h' ⟨rfl, rfl⟩
  refine S_notb rfl ?_
  refine S_nil (hK5 _ _ (V_keep [2, 3, 8, 10, 11, 20] (by simp only [proj, lk, reduceIte, Nat.reduceEqDiff]; rfl) ?_)); clear hK5
  refine V_condb rfl (fun c116 => ?_) (fun c116 => ?_)
  · skip
    cases c116
  · skip
    refine V_skipk [2, 3, 8, 10, 11] (by simp only [proj, lk, reduceIte, Nat.reduceEqDiff]; rfl) ?_
    refine hK4 _ _ ?_; clear hK4
    refine V_seq (fun K6 hK6 => ?_)
    refine V_sr T.mix (by kernel_rfl) (fun K7 hK7 => ?_)
    refine S_ldn T.ag51 rfl (hLA.all rfl) ?_
    refine S_ldn T.ag51 rfl (hLB.all rfl) ?_
    refine S_call T.hb22 rfl ?_
    refine FC.mono (sameparsed_spec h6 _ _ fl fb _ hIL hIB (by omega)) ?_
    rintro v h7 ⟨rfl, hE7⟩
    replace w := w.ext hE7 (fun _ f => f.elim)
    replace hE := hE.trans (hE7.mono fun _ f => f.elim)
    replace hR0 := hR0.ext hE7 (fun f => f)
    replace hLA := hLA.ext hE7 (fun f => f)
    replace hLB := hLB.ext hE7 (fun f => f)
    replace hIL := hIL.ext hE7 (fun _ _ f => f)
    replace hIB := hIB.ext hE7 (fun _ _ f => f)
    have hs7 := hE7.1
    clear hE7
    have hLA2 : cellH h7 ⟨h1.size, 2, none⟩ = some (.slice fl (parseF s).2.2.length (parseF s).2.2.length) := hLA.cell 2
    refine S_notb rfl ?_
    refine S_nil (hK7 _ _ (V_keep [2, 3, 8, 10, 11, 25] (by simp only [proj, lk, reduceIte, Nat.reduceEqDiff]; rfl) ?_)); clear hK7
    refine V_condb rfl (fun c119 => ?_) (fun c119 => ?_)
    · skip
      cases c119
    · skip
      refine V_skipk [2, 3, 8, 10, 11] (by simp only [proj, lk, reduceIte, Nat.reduceEqDiff]; rfl) ?_
      refine hK6 _ _ ?_; clear hK6
      refine V_seq (fun K8 hK8 => ?_)
      refine V_sr T.mix (by kernel_rfl) (fun K9 hK9 => ?_)
      first | refine S_fa0 T.f51_2 rfl ?_ | refine S_fa T.f51_2 rfl ?_
      refine S_ldK T.ag35 rfl (fun K' hK' => ?_)
      simp (disch := omega) only [hLA2, oP_some, Nat.add_zero]
      refine hK' _ ?_; clear hK' K'
      refine S_call T.hb23 rfl ?_
      refine FC.mono (fresh_spec h7 fl _ hfn) ?_
      rintro v h' ⟨rfl, rfl⟩
      refine S_notb rfl ?_
      refine S_nil (hK9 _ _ (V_keep [2, 3, 8, 10, 11, 30] (by simp only [proj, lk, reduceIte, Nat.reduceEqDiff]; rfl) ?_)); clear hK9
      refine V_condb rfl (fun c122 => ?_) (fun c122 => ?_)
      · skip
        cases c122
      · skip
        refine V_skipk [2, 3, 8, 10, 11] (by simp only [proj, lk, reduceIte, Nat.reduceEqDiff]; rfl) ?_
        refine hK8 _ _ ?_; clear hK8
        refine V_seq (fun K10 hK10 => ?_)
        refine V_sr T.mix (by kernel_rfl) (fun K11 hK11 => ?_)
        refine S_ldn T.ag51 rfl (hLA.all rfl) ?_
        refine S_mv rfl ?_
        refine S_call T.hb24 rfl ?_
        refine FC.mono (normal_spec h7 s fl hIL hfn) ?_
        rintro v h8 ⟨rfl, hE8⟩
        replace w := w.ext hE8 (fun _ f => f.elim)
        replace hE := hE.trans (hE8.mono fun _ f => f.elim)
        replace hR0 := hR0.ext hE8 (fun f => f)
        replace hLA := hLA.ext hE8 (fun f => f)
        replace hLB := hLB.ext hE8 (fun f => f)
        replace hIL := hIL.ext hE8 (fun _ _ f => f)
        replace hIB := hIB.ext hE8 (fun _ _ f => f)
        have hs8 := hE8.1
        clear hE8 hLA2
        have hLA2 : cellH h8 ⟨h1.size, 2, none⟩ = some (.slice fl (parseF s).2.2.length (parseF s).2.2.length) := hLA.cell 2
        refine S_notb rfl ?_
        refine S_nil (hK11 _ _ (V_keep [2, 8, 10, 11, 35] (by simp only [proj, lk, reduceIte, Nat.reduceEqDiff]; rfl) ?_)); clear hK11
        refine V_condb rfl (fun c125 => ?_) (fun c125 => ?_)
        · skip
          cases c125
        · skip
          refine V_skipk [2, 8, 10, 11] (by simp only [proj, lk, reduceIte, Nat.reduceEqDiff]; rfl) ?_
          refine hK10 _ _ ?_; clear hK10
          refine V_sr T.mix (by kernel_rfl) (fun K12 hK12 => ?_)
          refine S_mv rfl ?_
          first | refine S_fa0 T.f51_2 rfl ?_ | refine S_fa T.f51_2 rfl ?_
          refine S_ldK T.ag35 rfl (fun K' hK' => ?_)
          simp (disch := omega) only [hLA2, oP_some, Nat.add_zero]
          refine hK' _ ?_; clear hK' K'
          refine S_call T.hb25 rfl ?_
          refine FC.mono (keep_spec fl (parseF s).2.2 h8 D (dcs t) w.dd t.ma t.mc t.mine rfl w.mi w.kp w.ml (fun e => by have := w.tm _ e; have := w.tD; omega) (fun q hq b hb => ⟨fun e => by subst e; have := w.tk q hq _ hb; have := w.tD; omega, fun e => by have := w.tk q hq _ hb; have := w.tm b e; omega, fun e => by have := w.tk q hq _ hb; have := (hfb b e).1; omega⟩) (fun b hb => ⟨fun e => by subst e; have := (hfb _ hb).1; have := w.tD; omega, fun e => by have := (hfb _ hb).1; have := w.tm b e; omega⟩) hIL (by omega)) ?_
          rintro v h9 ⟨rfl, cs', ma', mc', mine', hB9, hz9, hi9, h49, hmi9, hk9, hml9, he9, hma9⟩
          have hD8 := w.tD
          have hm8 := w.tm
          obtain ⟨tg2, w2, ht3, hE9⟩ := w.keep (fun b hb => ⟨(hfb b hb).1, by have := hfb b hb; omega, by have := hfb b hb; omega⟩) hB9 hz9 hi9 h49 hmi9 hk9 hml9 he9 hma9
          replace hE := hE.trans hE9
          have nD : ∀ b, tg1 b = 0 → (∀ c, blkA fl = some c → c ≠ b) → ¬ (b = D ∨ blkA t.ma = some b ∨ blkA fl = some b) := fun b e f g => by rcases g with g | g | g; (rw [← g] at hD8; omega); (have := hm8 b g; omega); (exact f b g rfl)
          replace hR0 := hR0.ext he9 (nD _ hz0 fun c hc => by have := hfb c hc; omega)
          replace hLB := hLB.ext he9 (nD _ hz2 fun c hc => by have := hfb c hc; omega)
          replace hIB := hIB.ext he9 (fun b hb => nD _ (hbb b hb).1 fun c hc => by have := hfb c hc; have := hbb b hb; omega)
          have hs9 := he9.1
          refine S_nil (hK12 _ _ (V_keep [8, 11] (by simp only [proj, lk, reduceIte, Nat.reduceEqDiff]; rfl) ?_)); clear hK12
          refine V_sr T.mix (by kernel_rfl) (fun K13 hK13 => ?_)
          refine S_ldn T.ag51 rfl (hLB.all rfl) ?_
          have hok3 : ∀ j, j < 3 → okPut h9 ⟨h.size, j, none⟩ = true := fun j hj => hR0.ok (by simpa using hj)
          refine S_stl T.sz51 rfl rfl rfl rfl (fun j hj => by simp (disch := omega) only [hok3]) ?_
          generalize hh : putsH _ _ _ _ = hF
          replace hR0 : B hF h.size #[.int .i64 (parseF s).1, .int .i64 (parseF s).2.1, .slice fb (parseF s).2.2.length (parseF s).2.2.length] 51 := by rw [← hh]; exact B.puts_all hR0 (cs' := #[.int .i64 (parseF s).1, .int .i64 (parseF s).2.1, .slice fb (parseF s).2.2.length (parseF s).2.2.length]) rfl
          have hEhF : Ext (fun k => k = h.size) h9 hF := by rw [← hh]; exact Ext.puts (S := fun k => k = h.size) rfl _ _ _
          clear hh
          refine S_as rfl ?_
          refine S_nil (hK13 _ _ (V_keep [8, 9] (by simp only [proj, lk, reduceIte, Nat.reduceEqDiff]; rfl) ?_)); clear hK13
          refine V_ret ?_
          refine hR _ _ (retc2 rfl rfl T.ag51 rfl hR0 (by rfl) ?_)
          refine ⟨fb, tg2, a1, c1, _, rfl, hIB.ext hEhF (fun b hb e => by have := hbb b hb; omega), fun b hb => ⟨?_, by have := hbb b hb; omega⟩, w2.ext hEhF (fun b e => by subst e; rw [ht3 _ (by omega) (fun e => by have := hfb _ e; omega)]; exact hz0), ⟨rfl, rfl, rfl, rfl, rfl, rfl, rfl, rfl⟩, hE.trans (hEhF.mono fun b (e : b = _) => by omega)⟩
          have := hbb b hb
          rw [ht3 b (by omega) (fun e => by have := hfb _ e; omega)]; exact this.1
set_option maxHeartbeats 400000 in
theorem sameprint_spec (base : Nat) (h : Heap) (tg : Nat → Nat) (X M D : Nat) (a : Option Addr) (cap : Nat) (t : DS) (w : WI base h tg X M D a cap t) (fa : Option Addr) (fc : Nat) (xs : List Int) (hf : IL h fa fc xs) (h5 : ∀ b, blkA fa = some b → tg b = 5) (hl : xs.length ≤ 30000000) :
    FC Try.prog 16 (#[.pointer (some ⟨X, 0, none⟩), .pointer (some ⟨M, 0, none⟩), .pointer (some ⟨D, 0, none⟩), .slice fa xs.length fc] : Array Value) h fun v h' => ∃ tg' t', v = .tuple #[.string (printF xs).1, .int .i64 (printF xs).2, .bool true] ∧ IL h' fa fc xs ∧ (∀ b, blkA fa = some b → tg' b = 5) ∧ WI base h' tg' X M D a cap t' ∧ (t'.text = t.text ∧ t'.ra = t.ra ∧ t'.rc = t.rc ∧ t'.rg = t.rg ∧ t'.last = t.last ∧ t'.pa = t.pa ∧ t'.pc = t.pc ∧ t'.pl = t.pl) ∧ Ext (fun b => base ≤ b) h h' := by
  have hbs := w.hb
  refine FC_of [(0, .pointer (some ⟨X, 0, none⟩)), (1, .pointer (some ⟨M, 0, none⟩)), (2, .pointer (some ⟨D, 0, none⟩)), (3, .slice fa xs.length fc)] Try.func16 rfl Try.ntmps16 (by simp) rfl (fun R hR => ?_)
  refine V_sr T.mix (by kernel_rfl) (fun K1 hK1 => ?_)
  refine S_as rfl ?_
  refine S_as rfl ?_
  refine S_as rfl ?_
  refine S_nil (hK1 _ _ (V_keep [0, 1, 2, 3] (by simp only [proj, lk, reduceIte, Nat.reduceEqDiff]; rfl) ?_)); clear hK1
  refine V_sr T.mix (by kernel_rfl) (fun K2 hK2 => ?_)
  refine S_mv rfl ?_
  refine S_call T.hb26 rfl ?_
  refine FC.mono (copyints_spec h fa fc xs hf (by omega)) ?_
  rintro v h1 ⟨xa, rfl, hx, hE1, hxn, hxb0⟩
  have hxb : ∀ b, blkA xa = some b → tg b = 0 ∧ h.size ≤ b := fun b hb => ⟨w.z (hxb0 b hb), hxb0 b hb⟩
  replace w := w.ext hE1 (fun _ f => f.elim)
  replace hf := hf.ext hE1 (fun _ _ f => f)
  have hE : Ext (fun b => base ≤ b) h h1 := hE1.mono fun _ f => f.elim
  refine S_as rfl ?_
  refine S_nil (hK2 _ _ (V_keep [0, 1, 2, 3, 11] (by simp only [proj, lk, reduceIte, Nat.reduceEqDiff]; rfl) ?_)); clear hK2
  refine V_sr T.mix (by kernel_rfl) (fun K3 hK3 => ?_)
  refine S_mv rfl ?_
  refine S_call T.hb26 rfl ?_
  refine FC.mono (copyints_spec h1 fa fc xs hf (by omega)) ?_
  rintro v h2 ⟨ya, rfl, hy, hE2, hyn, hyb0⟩
  have hyb : ∀ b, blkA ya = some b → tg b = 0 := fun b hb => w.z (hyb0 b hb)
  replace w := w.ext hE2 (fun _ f => f.elim)
  replace hf := hf.ext hE2 (fun _ _ f => f)
  replace hx := hx.ext hE2 (fun _ _ f => f)
  replace hE := hE.trans (hE2.mono fun _ f => f.elim)
  refine S_as rfl ?_
  refine S_nil (hK3 _ _ (V_keep [0, 1, 2, 3, 11, 12] (by simp only [proj, lk, reduceIte, Nat.reduceEqDiff]; rfl) ?_)); clear hK3
  refine V_sr T.mix (by kernel_rfl) (fun K4 hK4 => ?_)
  refine S_mv rfl ?_
  refine S_mv rfl ?_
  refine S_call T.hb27 rfl ?_
  refine FC.mono (print_spec h2 _ xa _ xs hx (by omega)) ?_
  rintro v h3 ⟨rfl, hE3⟩
  replace w := w.ext hE3 (fun _ f => f.elim)
  replace hf := hf.ext hE3 (fun _ _ f => f)
  replace hx := hx.ext hE3 (fun _ _ f => f)
  replace hy := hy.ext hE3 (fun _ _ f => f)
  replace hE := hE.trans (hE3.mono fun _ f => f.elim)
  refine S_mv rfl ?_
  refine S_ex rfl rfl ?_
  refine S_ex rfl rfl ?_
  refine S_as rfl ?_
  refine S_as rfl ?_
  refine S_nil (hK4 _ _ (V_keep [1, 2, 3, 11, 12, 13, 14] (by simp only [proj, lk, reduceIte, Nat.reduceEqDiff]; rfl) ?_)); clear hK4
  refine V_sr T.mix (by kernel_rfl) (fun K5 hK5 => ?_)
  refine S_mv rfl ?_
  refine S_mv rfl ?_
  refine S_call T.hb28 rfl ?_
  obtain ⟨u, x, hMM⟩ := w.mm
  have hM2 := w.tM
  refine FC.mono (mprint_spec h3 M u x hMM ya _ xs hy (by omega) (fun e => by have := hyb _ e; omega)) ?_
  rintro v h4 ⟨rfl, hE4, hM4⟩
  replace hE := hE.trans (w.modE hE4)
  replace w := w.mod hE4 hM4
  replace hf := hf.ext hE4 (fun b hb e => by have := h5 b hb; rw [e] at this; omega)
  replace hx := hx.ext hE4 (fun b hb e => by have := hxb b hb; rw [e] at this; omega)
  refine S_mv rfl ?_
  refine S_ex rfl rfl ?_
  refine S_ex rfl rfl ?_
  refine S_as rfl ?_
  refine S_as rfl ?_
  refine S_nil (hK5 _ _ (V_keep [2, 3, 11, 13, 14, 15, 16] (by simp only [proj, lk, reduceIte, Nat.reduceEqDiff]; rfl) ?_)); clear hK5
  refine V_seq (fun K6 hK6 => ?_)
  refine V_sr T.mix (by kernel_rfl) (fun K7 hK7 => ?_)
  refine S_mv rfl ?_
  refine S_call T.hb21 rfl ?_
  refine FC.mono (untouched_spec h4 D (dcs t) w.dd t.ma t.mc t.mine rfl w.mi w.kp w.ml) ?_
  rintro v h' ⟨rfl, rfl⟩
  refine S_notb rfl ?_
  refine S_nil (hK7 _ _ (V_keep [2, 3, 11, 13, 14, 15, 16, 35] (by simp only [proj, lk, reduceIte, Nat.reduceEqDiff]; rfl) ?_)); clear hK7
  refine V_condb rfl (fun c139 => ?_) (fun c139 => ?_)
  · skip
    cases c139
  · skip
    refine V_skipk [2, 3, 11, 13, 14, 15, 16] (by simp only [proj, lk, reduceIte, Nat.reduceEqDiff]; rfl) ?_
    refine hK6 _ _ ?_; clear hK6
    refine V_seq (fun K8 hK8 => ?_)
    refine V_sr T.mix (by kernel_rfl) (fun K9 hK9 => ?_)
    refine S_mv rfl ?_
    refine S_mv rfl ?_
    refine S_bin rfl rfl rfl ?_
    refine S_mv rfl ?_
    refine S_dec (fun g142 => ?_) (fun g142 => ?_)
    · skip
      exfalso; exact g142 rfl
    · skip
      refine S_gt rfl ?_
      refine S_mv rfl ?_
      refine S_gt rfl ?_
      refine S_mv rfl ?_
      refine S_gt rfl ?_
      refine S_bin rfl rfl rfl ?_
      refine S_pf rfl rfl ?_
      refine S_nil (hK9 _ _ (V_keep [2, 3, 11, 15, 16, 45] (by simp only [proj, lk, reduceIte, Nat.reduceEqDiff]; rfl) ?_)); clear hK9
      refine V_condp rfl (fun c142 => ?_) (fun c142 => ?_)
      · skip
        exfalso; exact c142 rfl
      · skip
        refine V_skipk [2, 3, 11, 15, 16] (by simp only [proj, lk, reduceIte, Nat.reduceEqDiff]; rfl) ?_
        refine hK8 _ _ ?_; clear hK8
        refine V_seq (fun K10 hK10 => ?_)
        refine V_sr T.mix (by kernel_rfl) (fun K11 hK11 => ?_)
        refine S_mv rfl ?_
        refine S_mv rfl ?_
        refine S_call T.hb17 rfl ?_
        refine FC.mono (sameints_spec h4 xa fa _ _ xs xs hx hf (by omega) (by omega)) ?_
        rintro v h' ⟨rfl, rfl⟩
        refine S_notb rfl ?_
        refine S_nil (hK11 _ _ (V_keep [2, 11, 15, 16, 51] (by simp only [proj, lk, reduceIte, Nat.reduceEqDiff]; rfl) ?_)); clear hK11
        refine V_condb rfl (fun c145 => ?_) (fun c145 => ?_)
        · skip
          exfalso; simp at c145
        · skip
          refine V_skipk [2, 11, 15, 16] (by simp only [proj, lk, reduceIte, Nat.reduceEqDiff]; rfl) ?_
          refine hK10 _ _ ?_; clear hK10
          refine V_sr T.mix (by kernel_rfl) (fun K12 hK12 => ?_)
          refine S_mv rfl ?_
          refine S_mv rfl ?_
          refine S_call T.hb25 rfl ?_
          refine FC.mono (keep_spec xa xs h4 D (dcs t) w.dd t.ma t.mc t.mine rfl w.mi w.kp w.ml (fun e => by have := w.tm _ e; have := w.tD; omega) (fun q hq b hb => ⟨fun e => by subst e; have := w.tk q hq _ hb; have := w.tD; omega, fun e => by have := w.tk q hq _ hb; have := w.tm b e; omega, fun e => by have := w.tk q hq _ hb; have := (hxb b e).1; omega⟩) (fun b hb => ⟨fun e => by subst e; have := (hxb _ hb).1; have := w.tD; omega, fun e => by have := (hxb _ hb).1; have := w.tm b e; omega⟩) hx (by omega)) ?_
          rintro v h9 ⟨rfl, cs', ma', mc', mine', hB9, hz9, hi9, h49, hmi9, hk9, hml9, he9, hma9⟩
          have hD8 := w.tD
          have hm8 := w.tm
          obtain ⟨tg2, w2, ht3, hE9⟩ := w.keep (fun b hb => ⟨(hxb b hb).1, by have := hxb b hb; omega, hx.lt hb⟩) hB9 hz9 hi9 h49 hmi9 hk9 hml9 he9 hma9
          replace hE := hE.trans hE9
          have hf9 := hf.ext he9 (fun b hb e => by have := h5 b hb; rcases e with e | e | e; (rw [e] at this; omega); (have := hm8 b e; omega); (have := hxb b e; omega))
          refine S_nil (hK12 _ _ (V_keep [15, 16] (by simp only [proj, lk, reduceIte, Nat.reduceEqDiff]; rfl) ?_)); clear hK12
          refine V_sr T.mix (by kernel_rfl) (fun K13 hK13 => ?_)
          refine S_mv rfl ?_
          refine S_mv rfl ?_
          refine S_as rfl ?_
          refine S_as rfl ?_
          refine S_as rfl ?_
          refine S_nil (hK13 _ _ (V_keep [8, 9, 10] (by simp only [proj, lk, reduceIte, Nat.reduceEqDiff]; rfl) ?_)); clear hK13
          refine V_ret ?_
          refine hR _ _ (ret3 rfl rfl rfl rfl ?_)
          refine ⟨tg2, _, rfl, hf9, fun b hb => ?_, w2, ⟨rfl, rfl, rfl, rfl, rfl, rfl, rfl, rfl⟩, hE⟩
          rw [ht3 b (hf.lt hb) (fun e => by have := hxb b e; have := h5 b hb; omega)]; exact h5 b hb
set_option maxHeartbeats 400000 in
theorem meaning_spec (base : Nat) (h : Heap) (tg : Nat → Nat) (X M D : Nat) (a : Option Addr) (cap : Nat) (t : DS) (w : WI base h tg X M D a cap t) (hfo : flatOk t.rg = true) :
    FC Try.prog 14 (#[.pointer (some ⟨X, 0, none⟩), .pointer (some ⟨M, 0, none⟩), .pointer (some ⟨D, 0, none⟩), .slice t.ra t.rg.length t.rc] : Array Value) h fun v h' => v = .bool true ∧ ∃ tg' a' cap' t', WI base h' tg' X M D a' cap' t' ∧ Ext (fun b => base ≤ b) h h' := by
  have hbs := w.hb
  have hrl := w.rl
  refine FC_of [(0, .pointer (some ⟨X, 0, none⟩)), (1, .pointer (some ⟨M, 0, none⟩)), (2, .pointer (some ⟨D, 0, none⟩)), (3, .slice t.ra t.rg.length t.rc)] Try.func14 rfl Try.ntmps14 (by simp) rfl (fun R hR => ?_)
  refine V_sr T.mix (by kernel_rfl) (fun K1 hK1 => ?_)
  refine S_as rfl ?_
  refine S_nil (hK1 _ _ (V_keep [0, 1, 2, 3] (by simp only [proj, lk, reduceIte, Nat.reduceEqDiff]; rfl) ?_)); clear hK1
  refine V_seq (fun K2 hK2 => ?_)
  refine V_sr T.mix (by kernel_rfl) (fun K3 hK3 => ?_)
  refine S_mv rfl ?_
  refine S_lenl T.el35 rfl ?_
  refine S_bin rfl rfl rfl ?_
  refine S_nil (hK3 _ _ (V_keep [0, 1, 2, 3, 16] (by simp only [proj, lk, reduceIte, Nat.reduceEqDiff]; rfl) ?_)); clear hK3
  refine V_condp rfl (fun c154 => ?_) (fun c154 => ?_)
  · skip
    refine V_sr T.mix (by kernel_rfl) (fun K4 hK4 => ?_)
    refine S_as rfl ?_
    refine S_nil (hK4 _ _ (V_keep [8] (by simp only [proj, lk, reduceIte, Nat.reduceEqDiff]; rfl) ?_)); clear hK4
    refine V_ret ?_
    refine hR _ _ (ret1 rfl rfl ?_)
    exact ⟨rfl, tg, a, cap, t, w, Ext.refl _ _⟩
  · skip
    refine V_skipk [0, 1, 2, 3] (by simp only [proj, lk, reduceIte, Nat.reduceEqDiff]; rfl) ?_
    refine hK2 _ _ ?_; clear hK2
    refine V_sr T.mix (by kernel_rfl) (fun K5 hK5 => ?_)
    refine S_mv rfl ?_
    refine S_mv rfl ?_
    refine S_mv rfl ?_
    refine S_mv rfl ?_
    refine S_call T.hb16 rfl ?_
    refine FC.mono (sameprint_spec base h tg X M D a cap t w t.ra t.rc t.rg w.rg w.tr w.rl) ?_
    rintro v h1 ⟨tg1, t1, rfl, hf1, hb1, w1, hs1, hE1⟩
    have hp2 := printF_good hfo (by omega)
    have hrd := printF_ok hp2
    refine S_mv rfl ?_
    refine S_ex rfl rfl ?_
    refine S_ex rfl rfl ?_
    refine S_ex rfl rfl ?_
    refine S_as rfl ?_
    refine S_as rfl ?_
    refine S_as rfl ?_
    refine S_nil (hK5 _ _ (V_keep [0, 1, 2, 3, 9, 10, 11] (by simp only [proj, lk, reduceIte, Nat.reduceEqDiff]; rfl) ?_)); clear hK5
    refine V_seq (fun K6 hK6 => ?_)
    refine V_sr T.mix (by kernel_rfl) (fun K7 hK7 => ?_)
    refine S_mv rfl ?_
    refine S_notb rfl ?_
    refine S_mv rfl ?_
    refine S_decb (fun g158 => ?_) (fun g158 => ?_)
    · skip
      cases g158
    · skip
      refine S_gt rfl ?_
      refine S_mv rfl ?_
      refine S_gt rfl ?_
      refine S_bin rfl rfl rfl ?_
      refine S_pf rfl rfl ?_
      refine S_nil (hK7 _ _ (V_keep [0, 1, 2, 3, 9, 31] (by simp only [proj, lk, reduceIte, Nat.reduceEqDiff]; rfl) ?_)); clear hK7
      refine V_condp rfl (fun c158 => ?_) (fun c158 => ?_)
      · skip
        exfalso; omega
      · skip
        refine V_skipk [0, 1, 2, 3, 9] (by simp only [proj, lk, reduceIte, Nat.reduceEqDiff]; rfl) ?_
        refine hK6 _ _ ?_; clear hK6
        refine V_sr T.mix (by kernel_rfl) (fun K8 hK8 => ?_)
        refine S_mv rfl ?_
        refine S_mv rfl ?_
        refine S_mv rfl ?_
        refine S_mv rfl ?_
        refine S_call T.hb13 rfl ?_
        refine FC.mono (sameparse_spec base h1 tg1 X M D a cap t1 w1 (printF t.rg).1) ?_
        rintro v h2 ⟨fb, tg2, a2, c2, t2, hv, hIB, hbb, w2, hs2, hE2⟩
        have hv2 : v = .tuple #[.agg #[.int .i64 0, .int .i64 0, .slice fb t.rg.length t.rg.length], .bool true] := by rw [hv, hrd]; rfl
        subst hv2
        clear hv
        rw [hrd] at hIB
        have hf2 : IL h2 t.ra t.rc t.rg := by have := w2.rg; rw [hs2.2.1, hs2.2.2.1, hs2.2.2.2.1, hs1.2.1, hs1.2.2.1, hs1.2.2.2.1] at this; exact this
        have hb2 : ∀ b, blkA t.ra = some b → b < h2.size := fun b hb => hf2.lt hb
        have hc2 : ∀ b, blkA fb = some b → b < h2.size := fun b hb => hIB.lt hb
        have hE := hE1.trans hE2
        refine S_mv rfl ?_
        refine S_ex rfl rfl ?_
        refine S_ex rfl rfl ?_
        refine S_allocA T.z51 ?_
        generalize hh : Array.push h2 _ = h3
        have hL : B h3 h2.size #[.int .i64 0, .int .i64 0, .slice none 0 0] 51 := by rw [← hh]; exact B.new _ _ _
        have hEh3 : Ext (fun _ => False) h2 h3 := by rw [← hh]; exact Ext.push _ _ _
        clear hh
        replace hIB := hIB.ext hEh3 (fun _ _ f => f)
        have hz2 := w2.z (Nat.le_refl _)
        replace w2 := w2.ext hEh3 (fun _ f => f.elim)
        replace hE := hE.trans (hEh3.mono fun _ f => f.elim)
        have hok : ∀ j, j < 3 → okPut h3 ⟨h2.size, j, none⟩ = true := fun j hj => hL.ok (by simpa using hj)
        have hbl := w2.hb
        replace hf2 := hf2.ext hEh3 (fun _ _ f => f)
        have hb3 := hEh3.1
        refine S_stl T.sz51 rfl rfl rfl rfl (fun j hj => by simp (disch := omega) only [hok]) ?_
        generalize hh : putsH _ _ _ _ = h4
        replace hL : B h4 h2.size #[.int .i64 0, .int .i64 0, .slice fb t.rg.length t.rg.length] 51 := by rw [← hh]; exact B.puts_all hL (cs' := #[.int .i64 0, .int .i64 0, .slice fb t.rg.length t.rg.length]) rfl
        have hEh4 : Ext (fun k => k = h2.size) h3 h4 := by rw [← hh]; exact Ext.puts (S := fun k => k = h2.size) rfl _ _ _
        clear hh
        replace hIB := hIB.ext hEh4 (fun b hb e => by have := hc2 b hb; omega)
        replace hf2 := hf2.ext hEh4 (fun b hb e => by have := hb2 b hb; omega)
        replace w2 := w2.ext hEh4 (fun b e => by subst e; exact hz2)
        have hbs2 := hE1.1
        have hbs3 := hE2.1
        replace hE := hE.trans (hEh4.mono fun b (e : b = _) => by omega)
        have hL0 : cellH h4 ⟨h2.size, 0, none⟩ = some (.int .i64 0) := hL.cell 0
        have hL2 : cellH h4 ⟨h2.size, 2, none⟩ = some (.slice fb t.rg.length t.rg.length) := hL.cell 2
        refine S_as rfl ?_
        refine S_nil (hK8 _ _ (V_keep [3, 12, 13] (by simp only [proj, lk, reduceIte, Nat.reduceEqDiff]; rfl) ?_)); clear hK8
        refine V_seq (fun K9 hK9 => ?_)
        refine V_sr T.mix (by kernel_rfl) (fun K10 hK10 => ?_)
        refine S_mv rfl ?_
        refine S_notb rfl ?_
        refine S_mv rfl ?_
        refine S_decb (fun g162 => ?_) (fun g162 => ?_)
        · skip
          cases g162
        · skip
          refine S_gt rfl ?_
          first | refine S_fa0 T.f51_0 rfl ?_ | refine S_fa T.f51_0 rfl ?_
          refine S_gt rfl ?_
          refine S_ldK T.ag44 rfl (fun K' hK' => ?_)
          simp (disch := omega) only [hL0, hL2, oP_some, Nat.add_zero]
          refine hK' _ ?_; clear hK' K'
          refine S_gt rfl ?_
          refine S_bin rfl rfl rfl ?_
          refine S_pf rfl rfl ?_
          refine S_nil (hK10 _ _ (V_keep [3, 12, 46] (by simp only [proj, lk, reduceIte, Nat.reduceEqDiff]; rfl) ?_)); clear hK10
          refine V_condp rfl (fun c162 => ?_) (fun c162 => ?_)
          · skip
            exfalso; exact c162 rfl
          · skip
            refine V_skipk [3, 12] (by simp only [proj, lk, reduceIte, Nat.reduceEqDiff]; rfl) ?_
            refine hK9 _ _ ?_; clear hK9
            refine V_sr T.mix (by kernel_rfl) (fun K11 hK11 => ?_)
            first | refine S_fa0 T.f51_2 rfl ?_ | refine S_fa T.f51_2 rfl ?_
            refine S_ldK T.ag35 rfl (fun K' hK' => ?_)
            simp (disch := omega) only [hL0, hL2, oP_some, Nat.add_zero]
            refine hK' _ ?_; clear hK' K'
            refine S_mv rfl ?_
            refine S_call T.hb17 rfl ?_
            refine FC.mono (sameints_spec h4 fb t.ra _ _ t.rg t.rg hIB hf2 (by omega) (by omega)) ?_
            rintro v h' ⟨rfl, rfl⟩
            refine S_as rfl ?_
            refine S_nil (hK11 _ _ (V_keep [8] (by simp only [proj, lk, reduceIte, Nat.reduceEqDiff]; rfl) ?_)); clear hK11
            refine V_ret ?_
            refine hR _ _ (ret1 rfl rfl ?_)
            exact ⟨by simp, tg2, a2, c2, t2, w2, hE⟩
end Go.Proofs.Qxb6500399a
