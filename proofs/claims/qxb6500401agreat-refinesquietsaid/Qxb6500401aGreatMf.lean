import Derived.Test.Qxb6500401aGreatMe
set_option linter.unusedVariables false
set_option linter.unusedSimpArgs false
namespace Go.Proofs.Qxb6500401aGreat
open Go.Eng Go.Trl Go.Chk Go.Wat Go.Cnf

structure QI (Q : SR) (cl : Nat → Option (List Int)) : Prop where
  ai : AI Q
  al : AL Q cl
  r4 : Q.rs ≤ 4
  sf : Q.si ≤ Q.cf
  cf : Q.cf ≤ 4106
  ns : Q.rs < 4 → Q.si ≤ Q.rs
/-- the solver and all below it, between two calls -/
structure GS (h : Heap) (V P X C K : Nat) (la : Option Addr) (lc : Nat) (Q : SR) (W : WC) (cl : Nat → Option (List Int)) (s : TS) (p : Nat) (pa : Option Addr) (pc : Nat) : Prop where
  sx : SX h V P X C K la lc Q [] W cl s p
  pr : ChkW.Par h P pa pc p0
  qi : QI Q cl
  pn : FarB V X C K la P
  an : Far V X C K la pa
def GEx (V P X C K : Nat) (h h' : Heap) (la la' pa pa' : Option Addr) : Prop := Ext (fun b => b = V ∨ b = X ∨ b = C ∨ b = K ∨ b = P ∨ blkA la = some b ∨ blkA pa = some b) h h' ∧ (∀ b, blkA la' = some b → blkA la = some b ∨ h.size ≤ b) ∧ ∀ b, blkA pa' = some b → blkA pa = some b ∨ h.size ≤ b
def csOf (t : ByteArray) : Sto := (rowsOf (parseF t).2.2).map (fun x => x.2)
theorem SX.far {h h' : Heap} {V P X C K : Nat} {la : Option Addr} {lc : Nat} {Q : SR} {lg : List Int} {W : WC} {cl : Nat → Option (List Int)} {s : TS} {p : Nat} {S : Nat → Prop} (w : SX h V P X C K la lc Q lg W cl s p) (he : Ext S h h') (h1 : ¬ S V) (h2 : ¬ S X) (h3 : ¬ S C) (h4 : ¬ S K) (h5 : ∀ b, blkA la = some b → ¬ S b) : SX h' V P X C K la lc Q lg W cl s p :=
  ⟨w.sb.ext he h1, w.wx.ext he h3 h2, w.lb.ext he h4, w.lo.ext he h5, w.ne, w.lne⟩
theorem SEx.par {V X C K P : Nat} {h h' : Heap} {la la' pa : Option Addr} {pc : Nat} (e : SEx V X C K h h' la la') (hp : ChkW.Par h P pa pc p0) (h1 : FarB V X C K la P) (h2 : Far V X C K la pa) : ChkW.Par h' P pa pc p0 ∧ FarB V X C K la' P ∧ Far V X C K la' pa := by
  have hPl := hp.s.lt
  refine ⟨hp.ext e.1 (fun q => ?_) (fun b hb q => ?_), ?_, fun z hz => ?_⟩
  · obtain ⟨f1, f2, f3, f4, f5⟩ := h1
    rcases q with q | q | q | q | q
    · exact f1 q
    · exact f2 q
    · exact f3 q
    · exact f4 q
    · exact f5 q
  · obtain ⟨f1, f2, f3, f4, f5⟩ := h2 b hb
    rcases q with q | q | q | q | q
    · exact f1 q
    · exact f2 q
    · exact f3 q
    · exact f4 q
    · exact f5 q
  · obtain ⟨f1, f2, f3, f4, f5⟩ := h1
    refine ⟨f1, f2, f3, f4, fun q => ?_⟩
    rcases e.2 P q with r | r
    · exact f5 r
    · omega
  · obtain ⟨f1, f2, f3, f4, f5⟩ := h2 z hz
    refine ⟨f1, f2, f3, f4, fun q => ?_⟩
    rcases e.2 z q with r | r
    · exact f5 r
    · have := (OwnR.blk2 hp.ar hz).2; omega
theorem SEx.gex {V X C K P : Nat} {h h3 h' : Heap} {la la' pa pa' : Option Addr} (e : SEx V X C K h3 h' la la') (e0 : Ext (fun b => b = P ∨ blkA pa = some b) h h3) (hl : ∀ b, blkA la = some b → b < h.size) (hp : ∀ b, blkA pa' = some b → blkA pa = some b ∨ h.size ≤ b) : GEx V P X C K h h' la la' pa pa' := by
  have hs := e0.1
  refine ⟨(e0.mono (fun b q => ?_)).step e.1 (fun b hb q => ?_), fun b q => ?_, hp⟩
  · rcases q with q | q
    · exact .inr (.inr (.inr (.inr (.inl q))))
    · exact .inr (.inr (.inr (.inr (.inr (.inr q)))))
  · rcases q with q | q | q | q | q
    · exact .inl q
    · exact .inr (.inl q)
    · exact .inr (.inr (.inl q))
    · exact .inr (.inr (.inr (.inl q)))
    · exact .inr (.inr (.inr (.inr (.inr (.inl q)))))
  · rcases e.2 b q with r | r
    · exact .inl r
    · exact .inr (by omega)
/-- what a Solve answers -/
def SAns (t : ByteArray) (h h' : Heap) (V P X C K : Nat) (la' pa' : Option Addr) (W : WC) (cl : Nat → Option (List Int)) (s : TS) (p : Nat) (W' : WC) (cl' : Nat → Option (List Int)) (s' : TS) (p' : Nat) (rv : Value) : Prop :=
  (ChkW.prE t ≠ 0 ∧ rv = .agg #[.int .i64 ((ChkW.prE t : Nat) : Int), .int .i64 ((ChkW.prP t : Nat) : Int), .bool false, .slice none 0 0, .string ⟨#[]⟩, .int .i64 0, .int .i64 0] ∧ W' = W ∧ cl' = cl ∧ s' = s ∧ p' = p) ∨
  (ChkW.prE t = 0 ∧ ∃ r n f lr, SC (csOf t) cl' s' r n f lr ∧ NP r n s' ∧
    ((∃ ma, rv = .agg #[.int .i64 0, .int .i64 0, .bool true, .slice ma 12 12, .string ⟨#[]⟩, .int .i64 (f : Int), .int .i64 (r : Int)] ∧ IL h' ma 12 (mdF s') ∧ (∀ b, blkA ma = some b → h.size ≤ b ∧ blkA la' ≠ some b ∧ blkA pa' ≠ some b) ∧ s'.L.length = 12 ∧ ∀ j, j < 52 → ∀ cc, cl' j = some cc → Done (· ∈ lits s'.L) cc) ∨
     (rv = .agg #[.int .i64 0, .int .i64 0, .bool false, .slice none 0 0, .string (textOf (printB (flatR (lr ++ [(false, [])])))), .int .i64 ((f + 1 : Nat) : Int), .int .i64 (r : Int)] ∧ ¬ Fix (rowsS cl' 52) (deny []))))
theorem SC.zero {cs : Sto} (hc : cs.length ≤ 40) (hN : ∀ c ∈ cs, Nrm c) : SC cs (CLj cs cs.length) ⟨[], 0, 0⟩ 0 0 0 [] ∧ NH (CLj cs cs.length) 0 0 ⟨[], 0, 0⟩ := by
  have hz : ∀ i, cs.length ≤ i → CLj cs cs.length i = none := fun i hi => by unfold CLj; rw [if_neg (by omega)]
  have hg : ∀ i, CLj cs cs.length i = cs[i]? := fun i => by
    unfold CLj; split
    · rfl
    · rw [List.getElem?_eq_none (by omega)]
  have hrow : rowsS (CLj cs cs.length) 52 = cs := by
    have key : ∀ n, rowsS (CLj cs cs.length) n = cs.take n := by
      intro n
      induction n with
      | zero => rfl
      | succ n ih => rw [rowsS_succ, ih, hg, List.take_add_one]
    rw [key, List.take_of_length_le (by omega)]
  have hal : aL (CLj cs cs.length) = 0 := by
    unfold aL cI
    rw [List.length_eq_zero_iff, List.filter_eq_nil_iff]
    intro i hi; rw [List.mem_range'_1] at hi
    show ¬ (CLj cs cs.length i).isSome = true
    rw [hz i (by omega)]; simp
  refine ⟨⟨⟨TI.zero, Sn.nil _, fun n hn c hcc => ?_, fun j hj => absurd hj (Nat.not_lt_zero j)⟩, fun i _ => hg i, hc, by omega, rfl, ?_, by simp [NrmR], rfl, by rw [hal]; simp [flatR]⟩, fun _ => by omega, fun e => by omega⟩
  · rw [hg] at hcc; exact hN c (List.mem_of_getElem? hcc)
  · rw [hrow]; exact List.Perm.refl _
theorem qi_end {Q : SR} {cs : Sto} {cl : Nat → Option (List Int)} {s : TS} {r n f : Nat} {lr : List Rw} (sc : SC cs cl s r n f lr) (np : NP r n s) (ai : AI Q) (al : AL Q cl) (h1 : Q.cf = f ∨ Q.cf = f + 1) (h2 : Q.rs = r) (h3 : Q.si = n) : QI Q cl := by
  have := np.le sc
  have h4 := sc.cf
  have h5 := sc.r4
  exact ⟨ai, al, by omega, by omega, by omega, fun q => by have := np.1 (by omega); omega⟩

theorem pq3 {h : Heap} {b : Nat} {e a : Int} {xa : Option Addr} {n c t : Nat} (hB : B h b #[.int .i64 e, .int .i64 a, .slice xa n c] t) : cellH h ⟨b, 0, none⟩ = some (.int .i64 e) ∧ cellH h ⟨b, 1, none⟩ = some (.int .i64 a) ∧ cellH h ⟨b, 2, none⟩ = some (.slice xa n c) ∧ ∀ j, j < 3 → okPut h ⟨b, j, none⟩ = true :=
  ⟨hB.cell 0, hB.cell 1, hB.cell 2, fun j hj => hB.ok (by simpa using hj)⟩

theorem GS.put {h h' : Heap} {V P X C K : Nat} {la : Option Addr} {lc : Nat} {Q : SR} {W : WC} {cl : Nat → Option (List Int)} {s : TS} {p : Nat} {pa : Option Addr} {pc R : Nat} (g : GS h V P X C K la lc Q W cl s p pa pc) (he : Ext (fun k => k = R) h h') (hR : FarB V X C K la R) (h1 : P ≠ R) (h2 : blkA pa ≠ some R) : GS h' V P X C K la lc Q W cl s p pa pc :=
  ⟨g.sx.far he (fun e => hR.1 e.symm) (fun e => hR.2.1 e.symm) (fun e => hR.2.2.1 e.symm) (fun e => hR.2.2.2.1 e.symm) (fun b e f => hR.2.2.2.2 (f ▸ e)), g.pr.ext he h1 (fun b e f => h2 (f ▸ e)), g.qi, g.pn, g.an⟩
theorem GEx.step {V P X C K : Nat} {h h1 h2 : Heap} {la la' pa pa' : Option Addr} {S : Nat → Prop} (e : GEx V P X C K h h1 la la' pa pa') (he : Ext S h1 h2) (hS : ∀ b, b < h.size → ¬ S b) : GEx V P X C K h h2 la la' pa pa' :=
  ⟨e.1.step he (fun b hb f => absurd f (hS b hb)), e.2.1, e.2.2⟩
set_option maxHeartbeats 6400000 in
theorem xsolve_spec (h : Heap) (V P X C K : Nat) (la : Option Addr) (lc : Nat) (Q : SR) (W : WC) (cl : Nat → Option (List Int)) (s : TS) (p : Nat) (pa : Option Addr) (pc : Nat) (g : GS h V P X C K la lc Q W cl s p pa pc) (t : ByteArray) (hp : p ≤ 800000000000000000) :
    FC Tryz.prog 29 (#[.pointer (some ⟨V, 0, none⟩), .string t] : Array Value) h fun rv h' => ∃ la' lc' Q' W' cl' s' p' pa' pc', GS h' V P X C K la' lc' Q' W' cl' s' p' pa' pc' ∧ p' ≤ p + 100000 ∧ GEx V P X C K h h' la la' pa pa' ∧ SAns t h h' V P X C K la' pa' W cl s p W' cl' s' p' rv := by
  have w := g.sx
  have hB := w.sb
  have hlt := w.lt
  have hPl := g.pr.s.lt
  have hlaL : ∀ b, blkA la = some b → b < h.size := fun b e => (OwnR.blk2 w.lo e).2
  have hpaL : ∀ b, blkA pa = some b → b < h.size := fun b e => (OwnR.blk2 g.pr.ar e).2
  obtain ⟨q0, q1, q2, qok⟩ : True ∧ True ∧ True ∧ True := ⟨trivial, trivial, trivial, trivial⟩
  refine FC_of [(0, .pointer (some ⟨V, 0, none⟩)), (1, .string t)] Tryz.func29 rfl Tryz.ntmps29 (by simp) rfl (fun R hR => ?_)
  refine V_sr T.mix (by kernel_rfl) (fun K1 hK1 => ?_)
  refine S_allocA T.z82 ?_
  generalize hh : Array.push h _ = hA
  have hRA : B hA h.size #[.int .i64 0, .int .i64 0, .bool false, .slice none 0 0, .string ⟨#[]⟩, .int .i64 0, .int .i64 0] 82 := by rw [← hh]; exact B.new _ _ _
  have hEhA : Ext (fun _ => False) h hA := by rw [← hh]; exact Ext.push _ _ _
  have hshA : hA.size = h.size + 1 := by rw [← hh]; simp
  clear hh
  have wA := w.new hEhA
  clear hB
  have hB := wA.sb
  try clear hRok
  have hRok : ∀ j, j < 7 → okPut hA ⟨h.size, j, none⟩ = true := fun j hj => (hRA).ok (by simpa using hj)
  refine S_nil (hK1 _ _ (V_keep [0, 1, 4] (by simp only [proj, lk, reduceIte, Nat.reduceEqDiff]; rfl) ?_)); clear hK1
  refine V_sr T.mix (by kernel_rfl) (fun K2 hK2 => ?_)
  refine S_mv rfl ?_
  refine S_nc rfl ?_
  first | refine S_fa0 T.f53_0 rfl ?_ | refine S_fa T.f53_0 rfl ?_
  refine S_ldK T.ag29 rfl (fun K' hK' => ?_)
  simp (disch := omega) only [slP hB, slT hB, slW hB, slL hB, slLog hB, slAct hB, slPh hB, slInc hB, slAl hB, slCt hB, slCf hB, slRs hB, slSi hB, q0, q1, q2, oP_some, Nat.add_zero]
  refine hK' _ ?_; clear hK' K'
  refine S_mv rfl ?_
  refine S_call T.hb55 rfl ?_
  refine FC.mono (ChkW.parse_spec hA P pa pc (g.pr.ext hEhA (fun f => f) (fun _ _ f => f)) t) ?_
  rintro v' h1 ⟨fl, pa1, pc1, rfl, hI1, hn1, hb1, hP1, hX1⟩
  have hs1 := hX1.1.1
  have hPN := g.pn
  have hAN := g.an
  have nS : ∀ b, b = V ∨ b = X ∨ b = C ∨ b = K ∨ blkA la = some b → ¬ (b = P ∨ blkA pa = some b) := fun b hb f => by
    rcases f with f | f
    · subst f
      obtain ⟨f1, f2, f3, f4, f5⟩ := hPN
      rcases hb with q | q | q | q | q
      · exact f1 q
      · exact f2 q
      · exact f3 q
      · exact f4 q
      · exact f5 q
    · obtain ⟨f1, f2, f3, f4, f5⟩ := hAN b f
      rcases hb with q | q | q | q | q
      · exact f1 q
      · exact f2 q
      · exact f3 q
      · exact f4 q
      · exact f5 q
  have w1 := wA.far hX1.1 (nS V (by simp)) (nS X (by simp)) (nS C (by simp)) (nS K (by simp)) (fun b e => nS b (by simp [e]))
  have hR1 := hRA.ext hX1.1 (fun f => by rcases f with f | f; (omega); (have h9 := hpaL _ f; omega))
  clear hB
  have hB := w1.sb
  try clear hRok
  have hRok : ∀ j, j < 7 → okPut h1 ⟨h.size, j, none⟩ = true := fun j hj => (hR1).ok (by simpa using hj)
  refine S_allocA T.z115 ?_
  generalize hh : Array.push h1 _ = h2
  have hP2 : B h2 h1.size #[.int .i64 0, .int .i64 0, .slice none 0 0] 115 := by rw [← hh]; exact B.new _ _ _
  have hEh2 : Ext (fun _ => False) h1 h2 := by rw [← hh]; exact Ext.push _ _ _
  have hsh2 : h2.size = h1.size + 1 := by rw [← hh]; simp
  clear hh
  try clear q0 q1 q2 qok
  obtain ⟨q0, q1, q2, qok⟩ := pq3 (hP2)
  refine S_stl T.sz115 rfl rfl rfl rfl (fun j hj => by simp (disch := omega) only [hRok, qok, sok hB]) ?_
  generalize hh : putsH _ _ _ _ = h3
  have hP3 : B h3 (h1.size) #[.int .i64 (((parseF t).1 : Nat) : Int), .int .i64 (((parseF t).2.1 : Nat) : Int), .slice fl (parseF t).2.2.length (parseF t).2.2.length] 115 := by rw [← hh]; exact B.puts_all (hP2) (cs' := #[.int .i64 (((parseF t).1 : Nat) : Int), .int .i64 (((parseF t).2.1 : Nat) : Int), .slice fl (parseF t).2.2.length (parseF t).2.2.length]) rfl
  have hEh3 : Ext (fun k => k = h1.size) h2 h3 := by rw [← hh]; exact Ext.puts (S := fun k => k = h1.size) rfl _ _ _
  clear hh
  try clear q0 q1 q2 qok
  obtain ⟨q0, q1, q2, qok⟩ := pq3 (hP3)
  have hE13 : Ext (fun _ => False) h1 h3 := hEh2.step hEh3 (fun z hz e => by omega)
  have w3 := w1.new hE13
  have hI3x := hI1.ext hE13 (fun _ _ f => f)
  have hR3 := hR1.ext hE13 (fun f => f)
  have hPar3 := hP1.ext hE13 (fun f => f) (fun _ _ f => f)
  have hs3 := hE13.1
  clear hB
  have hB := w3.sb
  try clear hRok
  have hRok : ∀ j, j < 7 → okPut h3 ⟨h.size, j, none⟩ = true := fun j hj => (hR3).ok (by simpa using hj)
  have hE03 : Ext (fun b => b = P ∨ blkA pa = some b) h h3 := ((hEhA.mono fun _ f => f.elim).trans hX1.1).trans (hE13.mono fun _ f => f.elim)
  have hpa1 : ∀ b, blkA pa1 = some b → blkA pa = some b ∨ h.size ≤ b := fun b e => by rcases hX1.2 b e with q | q; (exact .inl q); (exact .inr (by omega))
  have hAN1 : Far V X C K la pa1 := fun z e => by
    rcases hpa1 z e with q | q
    · exact hAN z q
    · exact ⟨by omega, by omega, by omega, by omega, fun r => by have h9 := hlaL z r; omega⟩
  have hRf3 : FarB V X C K la h.size := ⟨by omega, by omega, by omega, by omega, fun r => by have h9 := hlaL _ r; omega⟩
  have hPf3 : FarB V X C K la h1.size := ⟨by omega, by omega, by omega, by omega, fun r => by have h9 := hlaL _ r; omega⟩
  have hF3 : Far V X C K la fl := fun z e => by
    have h9 := (hb1 z e).1
    exact ⟨by omega, by omega, by omega, by omega, fun r => by have h8 := hlaL z r; omega⟩
  have hpl := ChkW.parse_len t
  refine S_nil (hK2 _ _ (V_keep [0, 4, 5] (by simp only [proj, lk, reduceIte, Nat.reduceEqDiff]; rfl) ?_)); clear hK2
  refine V_seq (fun K3 hK3 => ?_)
  refine V_sr T.mix (by kernel_rfl) (fun K4 hK4 => ?_)
  first | refine S_fa0 T.f115_0 rfl ?_ | refine S_fa T.f115_0 rfl ?_
  refine S_ldK T.ag54 rfl (fun K' hK' => ?_)
  simp (disch := omega) only [slP hB, slT hB, slW hB, slL hB, slLog hB, slAct hB, slPh hB, slInc hB, slAl hB, slCt hB, slCf hB, slRs hB, slSi hB, q0, q1, q2, oP_some, Nat.add_zero]
  refine hK' _ ?_; clear hK' K'
  refine S_bin rfl rfl rfl ?_
  refine S_nil (hK4 _ _ (V_keep [0, 4, 5, 19] (by simp only [proj, lk, reduceIte, Nat.reduceEqDiff]; rfl) ?_)); clear hK4
  refine V_condp rfl (fun c74 => ?_) (fun c74 => ?_)
  · skip
    have hpe : (parseF t).1 = ChkW.prE t := by unfold ChkW.prE; rw [if_pos (by omega)]
    have hpp : (parseF t).2.1 = ChkW.prP t := by unfold ChkW.prP; rw [if_pos (by omega)]
    rw [hpe] at q0
    rw [hpp] at q1
    refine V_sr T.mix (by kernel_rfl) (fun K5 hK5 => ?_)
    first | refine S_fa0 T.f115_0 rfl ?_ | refine S_fa T.f115_0 rfl ?_
    refine S_ldK T.ag54 rfl (fun K' hK' => ?_)
    simp (disch := omega) only [slP hB, slT hB, slW hB, slL hB, slLog hB, slAct hB, slPh hB, slInc hB, slAl hB, slCt hB, slCf hB, slRs hB, slSi hB, q0, q1, q2, oP_some, Nat.add_zero]
    refine hK' _ ?_; clear hK' K'
    first | refine S_fa0 T.f115_1 rfl ?_ | refine S_fa T.f115_1 rfl ?_
    refine S_ldK T.ag3 rfl (fun K' hK' => ?_)
    simp (disch := omega) only [slP hB, slT hB, slW hB, slL hB, slLog hB, slAct hB, slPh hB, slInc hB, slAl hB, slCt hB, slCf hB, slRs hB, slSi hB, q0, q1, q2, oP_some, Nat.add_zero]
    refine hK' _ ?_; clear hK' K'
    refine S_bld rfl (T.bld82_0_1 _ _) ?_
    refine S_stl T.sz82 rfl rfl rfl rfl (fun j hj => by simp (disch := omega) only [hRok, qok, sok hB]) ?_
    generalize hh : putsH _ _ _ _ = hy
    have hRy : B hy (h.size) #[.int .i64 ((ChkW.prE t : Nat) : Int), .int .i64 ((ChkW.prP t : Nat) : Int), .bool false, .slice none 0 0, .string ⟨#[]⟩, .int .i64 0, .int .i64 0] 82 := by rw [← hh]; exact B.puts_all (hR3) (cs' := #[.int .i64 ((ChkW.prE t : Nat) : Int), .int .i64 ((ChkW.prP t : Nat) : Int), .bool false, .slice none 0 0, .string ⟨#[]⟩, .int .i64 0, .int .i64 0]) rfl
    have hEhy : Ext (fun k => k = h.size) h3 hy := by rw [← hh]; exact Ext.puts (S := fun k => k = h.size) rfl _ _ _
    clear hh
    refine S_nil (hK5 _ _ (V_keep [4] (by simp only [proj, lk, reduceIte, Nat.reduceEqDiff]; rfl) ?_)); clear hK5
    refine V_ret ?_
    refine hR _ _ (retc1 rfl rfl T.ag82 hRy (by rfl) ?_)
    have gz : GS hy V P X C K la lc Q W cl s p pa1 pc1 := GS.put ⟨w3, hPar3, g.qi, g.pn, hAN1⟩ hEhy hRf3 (by omega) (fun e => by rcases hpa1 _ e with q | q; (have h9 := hpaL _ q; omega); (have h9 := (OwnR.blk2 hP1.ar e).2; have h8 := hX1.2 _ e; rcases h8 with z | z; (have h7 := hpaL _ z; omega); (omega)))
    have gx := ((SEx.refl V X C K h3 la).gex hE03 hlaL hpa1).step hEhy (fun b hb e => by omega)
    exact ⟨la, lc, Q, W, cl, s, p, pa1, pc1, gz, by omega, gx, .inl ⟨by omega, rfl, rfl, rfl, rfl, rfl⟩⟩
  · skip
    have hp0 : (parseF t).1 = 0 := by omega
    obtain ⟨hfe, hN0⟩ := rowsOf_ok (parseF_ok hp0).2
    obtain ⟨rows, hrw⟩ : ∃ rows, rows = rowsOf (parseF t).2.2 := ⟨_, rfl⟩
    have hcs : csOf t = rows.map (fun x => x.2) := by unfold csOf; rw [hrw]
    rw [← hrw] at hfe hN0
    have hN := hN0
    have hI3 : IL h3 fl (parseF t).2.2.length (flatR rows) := by rw [hfe]; exact hI3x
    rw [← hfe] at hI3 hpl hP3 q2
    refine V_skipk [0, 4, 5] (by simp only [proj, lk, reduceIte, Nat.reduceEqDiff]; rfl) ?_
    refine hK3 _ _ ?_; clear hK3
    refine V_sr T.mix (by kernel_rfl) (fun K6 hK6 => ?_)
    first | refine S_fa0 T.f115_2 rfl ?_ | refine S_fa T.f115_2 rfl ?_
    refine S_ldK T.ag49 rfl (fun K' hK' => ?_)
    simp (disch := omega) only [slP hB, slT hB, slW hB, slL hB, slLog hB, slAct hB, slPh hB, slInc hB, slAl hB, slCt hB, slCf hB, slRs hB, slSi hB, q0, q1, q2, oP_some, Nat.add_zero]
    refine hK' _ ?_; clear hK' K'
    refine S_call T.hb56 rfl ?_
    refine FC.mono (survey_spec h3 fl _ rows hI3 hN (by omega)) ?_
    rintro v' h' ⟨rfl, rfl⟩
    refine S_as rfl ?_
    refine S_nil (hK6 _ _ (V_keep [0, 4, 5, 6] (by simp only [proj, lk, reduceIte, Nat.reduceEqDiff]; rfl) ?_)); clear hK6
    refine V_seq (fun K7 hK7 => ?_)
    refine V_sr T.mix (by kernel_rfl) (fun K8 hK8 => ?_)
    refine S_mv rfl ?_
    refine S_bin rfl rfl rfl ?_
    refine S_nil (hK8 _ _ (V_keep [0, 4, 5, 6, 29] (by simp only [proj, lk, reduceIte, Nat.reduceEqDiff]; rfl) ?_)); clear hK8
    refine V_condp rfl (fun c78 => ?_) (fun c78 => ?_)
    · skip
      have hpe : fitF rows = ChkW.prE t := by unfold ChkW.prE; rw [if_neg (by omega), ← hrw]
      have hpp : ChkW.prP t = 0 := by unfold ChkW.prP; rw [if_neg (by omega)]
      rw [hpe]
      refine V_sr T.mix (by kernel_rfl) (fun K9 hK9 => ?_)
      refine S_mv rfl ?_
      refine S_bld rfl (T.bld82_0 _) ?_
      refine S_stl T.sz82 rfl rfl rfl rfl (fun j hj => by simp (disch := omega) only [hRok, qok, sok hB]) ?_
      generalize hh : putsH _ _ _ _ = hy
      have hRy : B hy (h.size) #[.int .i64 ((ChkW.prE t : Nat) : Int), .int .i64 0, .bool false, .slice none 0 0, .string ⟨#[]⟩, .int .i64 0, .int .i64 0] 82 := by rw [← hh]; exact B.puts_all (hR3) (cs' := #[.int .i64 ((ChkW.prE t : Nat) : Int), .int .i64 0, .bool false, .slice none 0 0, .string ⟨#[]⟩, .int .i64 0, .int .i64 0]) rfl
      have hEhy : Ext (fun k => k = h.size) h3 hy := by rw [← hh]; exact Ext.puts (S := fun k => k = h.size) rfl _ _ _
      clear hh
      refine S_nil (hK9 _ _ (V_keep [4] (by simp only [proj, lk, reduceIte, Nat.reduceEqDiff]; rfl) ?_)); clear hK9
      refine V_ret ?_
      refine hR _ _ (retc1 rfl rfl T.ag82 hRy (by rfl) ?_)
      have gz : GS hy V P X C K la lc Q W cl s p pa1 pc1 := GS.put ⟨w3, hPar3, g.qi, g.pn, hAN1⟩ hEhy hRf3 (by omega) (fun e => by rcases hpa1 _ e with q | q; (have h9 := hpaL _ q; omega); (have h9 := (OwnR.blk2 hP1.ar e).2; have h8 := hX1.2 _ e; rcases h8 with z | z; (have h7 := hpaL _ z; omega); (omega)))
      have gx := ((SEx.refl V X C K h3 la).gex hE03 hlaL hpa1).step hEhy (fun b hb e => by omega)
      exact ⟨la, lc, Q, W, cl, s, p, pa1, pc1, gz, by omega, gx, .inl ⟨by omega, by rw [hpp]; rfl, rfl, rfl, rfl, rfl⟩⟩
    · skip
      have hfit : fitF rows = 0 := by omega
      obtain ⟨hde, h40⟩ := ChkW.fit_ok hfit
      have hdel : ∀ r ∈ rows, r.1 = false := fun r hr => by simpa using hde r hr
      have hpr0 : ChkW.prE t = 0 := by unfold ChkW.prE; rw [if_neg (by omega), ← hrw]; exact hfit
      refine V_skipk [0, 4, 5] (by simp only [proj, lk, reduceIte, Nat.reduceEqDiff]; rfl) ?_
      refine hK7 _ _ ?_; clear hK7
      refine V_sr T.mix (by kernel_rfl) (fun K10 hK10 => ?_)
      refine S_mv rfl ?_
      refine S_call T.hb57 rfl ?_
      refine FC.mono (begin_spec h3 V P X C K la lc Q [] W cl s p w3 (by omega)) ?_
      rintro v' h4 ⟨rfl, Q4, W4, w4, ai4, hi4, ha4, hc4, hf4, hr4, hs4, hX4⟩
      obtain ⟨hI4, hF4⟩ := hX4.il hI3 hF3
      obtain ⟨hP4, hPf4⟩ := hX4.blk hP3 hPf3
      clear hB
      have hB := w4.sb
      try clear q0 q1 q2 qok
      obtain ⟨q0, q1, q2, qok⟩ := pq3 (hP4)
      have hz4 : ∀ j, j < 7 → okPut h4 ⟨h.size, j, none⟩ = true := fun j hj => (hX4.blk hR3 hRf3).1.ok (by simpa using hj)
      clear hRok
      have hRok := hz4
      refine S_nil (hK10 _ _ (V_keep [0, 4, 5] (by simp only [proj, lk, reduceIte, Nat.reduceEqDiff]; rfl) ?_)); clear hK10
      refine V_sr T.mix (by kernel_rfl) (fun K11 hK11 => ?_)
      refine S_mv rfl ?_
      first | refine S_fa0 T.f115_2 rfl ?_ | refine S_fa T.f115_2 rfl ?_
      refine S_ldK T.ag49 rfl (fun K' hK' => ?_)
      simp (disch := omega) only [slP hB, slT hB, slW hB, slL hB, slLog hB, slAct hB, slPh hB, slInc hB, slAl hB, slCt hB, slCf hB, slRs hB, slSi hB, q0, q1, q2, oP_some, Nat.add_zero]
      refine hK' _ ?_; clear hK' K'
      refine S_call T.hb58 rfl ?_
      refine FC.mono (load_spec h4 V P X C K la lc Q4 [] W4 _ _ w4 fl _ rows hI4 hN (by omega) hdel h40 hF4) ?_
      rintro v' h5 ⟨rfl, W5, w5, hX5⟩
      obtain ⟨sc5, nh5⟩ := SC.zero (cs := csOf t) (by rw [hcs, List.length_map]; exact h40) (by rw [hcs]; exact ChkW.nrm_rows hN)
      rw [show CLj (rows.map (fun x => x.2)) rows.length = CLj (csOf t) (csOf t).length by rw [hcs, List.length_map]] at w5
      have al5 : AL Q4 (CLj (csOf t) (csOf t).length) := ⟨by omega, fun k hk => by rw [ha4, Nat.zero_testBit]; unfold CLj; rw [if_neg (by rw [hcs, List.length_map]; omega)]; rfl, by rw [hc4]; have h9 := sc5.ln; simp at h9; omega⟩
      refine S_nil (hK11 _ _ (V_keep [0, 4] (by simp only [proj, lk, reduceIte, Nat.reduceEqDiff]; rfl) ?_)); clear hK11
      refine V_block ?_
      refine V_loop (fun m l h' => ∃ (hk : Heap) (lak : Option Addr) (lck : Nat) (Qk : SR) (lrk : List Rw) (Wk : WC) (clk : Nat → Option (List Int)) (sk : TS) (pk r n f : Nat), (SX hk V P X C K lak lck Qk (flatR lrk) Wk clk sk pk) ∧ (SC (csOf t) clk sk r n f lrk) ∧ (NH clk r n sk) ∧ (AL Qk clk) ∧ (AI Qk) ∧ (Qk.cf = f ∧ Qk.rs = r ∧ Qk.si = n ∧ Qk.inc = f + 1) ∧ (pk ≤ p + 12 + 24 * f) ∧ (f ≤ 4106) ∧ (SEx V X C K h3 hk la lak) ∧ m = (4107 - f) * 14 + (12 - sk.L.length) ∧ l = [(0, .pointer (some ⟨V, 0, none⟩)), (4, .pointer (some ⟨h.size, 0, none⟩))] ∧ hk = h') _ ⟨h5, la, lc, Q4, [], W5, _, ⟨[], 0, 0⟩, _, 0, 0, 0, w5, sc5, nh5, al5, ai4, ⟨hf4, hr4, hs4, hi4⟩, by have h9 := TI.len w.wx.t.ok; omega, by omega, hX4.trans hX5, rfl, rfl, rfl⟩ ?_
      rintro m l h' ⟨hk, lak, lck, Qk, lrk, Wk, clk, sk, pk, r, n, f, wk, sck, nhk, alk, aik, hqk, hpk, hfk, hXk, rfl, rfl, rfl⟩ K12 hK12
      clear hB
      have hB := wk.sb
      refine V_block ?_
      refine V_sr T.mix (by kernel_rfl) (fun K13 hK13 => ?_)
      refine S_mv rfl ?_
      refine S_nc rfl ?_
      first | refine S_fa0 T.f53_2 rfl ?_ | refine S_fa T.f53_2 rfl ?_
      refine S_ldK T.ag31 rfl (fun K' hK' => ?_)
      simp (disch := omega) only [slP hB, slT hB, slW hB, slL hB, slLog hB, slAct hB, slPh hB, slInc hB, slAl hB, slCt hB, slCf hB, slRs hB, slSi hB, q0, q1, q2, oP_some, Nat.add_zero]
      refine hK' _ ?_; clear hK' K'
      refine S_call T.hb59 rfl ?_
      refine FC.mono (propagate_spec hk C X Wk clk sk pk wk.wx) ?_
      rintro v' h6 ⟨W6, s6, cr, rfl, hW6, pr6, hc6, _, hor6, hE6⟩
      have w6 := wk.watch hE6 (fun b e => e) hW6
      have hok6 := hW6.t.ok
      have hX6 := hXk.put hE6 (fun k e => by rcases e with e | e; (exact .inr (.inr (.inl e))); (exact .inr (.inl e)))
      have hends : Ends clk s6 := by
        rcases hor6 with q | ⟨id, q1, _, q2, _⟩
        · exact .inl q.2.2.2
        · exact .inr ⟨id, q1, q2⟩
      obtain ⟨sc6, np6⟩ := sck.prop nhk pr6 hok6 hends
      have hf6 := np6.le sc6
      have h126 := TI.len hok6
      have hmono : sk.L.length ≤ s6.L.length := pr6.ch.1
      clear hB
      have hB := w6.sb
      refine S_as rfl ?_
      refine S_nil (hK13 _ _ (V_keep [0, 4, 7] (by simp only [proj, lk, reduceIte, Nat.reduceEqDiff]; rfl) ?_)); clear hK13
      refine V_sr T.mix (by kernel_rfl) (fun K14 hK14 => ?_)
      refine S_mv rfl ?_
      refine S_bin rfl rfl rfl ?_
      refine S_nil (hK14 _ _ (V_keep [0, 4, 7, 44] (by simp only [proj, lk, reduceIte, Nat.reduceEqDiff]; rfl) ?_)); clear hK14
      refine V_condp rfl (fun c85 => ?_) (fun c85 => ?_)
      · skip
        obtain ⟨id, hid, rfl, haf⟩ : ∃ id : Nat, id < 52 ∧ cr = id ∧ AF clk id (lits s6.L) := by
          rcases hor6 with q | ⟨id, q1, q2, q3, _⟩
          · omega
          · exact ⟨id, q1, q2, q3⟩
        refine V_sr T.mix (by kernel_rfl) (fun K15 hK15 => ?_)
        refine S_mv rfl ?_
        refine S_mv rfl ?_
        refine S_call T.hb60 rfl ?_
        refine FC.mono (conflict_spec h6 V P X C K lak lck Qk lrk W6 clk s6 pk w6 (csOf t) r n f sc6 np6 alk aik hqk.1 hqk.2.1 hqk.2.2.1 hqk.2.2.2 (by omega) id hid haf) ?_
        rintro v' h7 ⟨la7, lc7, Q7, lr7, W7, cl7, s7, p7, bb, rfl, w7, ai7, hX7, hp7, hce⟩
        have hX67 := hX6.trans hX7
        clear hB
        have hB := w7.sb
        refine S_as rfl ?_
        refine S_nil (hK15 _ _ (V_keep [0, 4, 8] (by simp only [proj, lk, reduceIte, Nat.reduceEqDiff]; rfl) ?_)); clear hK15
        refine V_sr T.mix (by kernel_rfl) (fun K16 hK16 => ?_)
        refine S_mv rfl ?_
        refine S_notb rfl ?_
        refine S_nil (hK16 _ _ (V_keep [0, 4, 49] (by simp only [proj, lk, reduceIte, Nat.reduceEqDiff]; rfl) ?_)); clear hK16
        refine V_condb rfl (fun c87 => ?_) (fun c87 => ?_)
        · skip
          have hbb : bb = false := by simpa using c87
          obtain ⟨e1, e2, e3, e4, e5, e6, e7, e8⟩ : s7 = s6 ∧ cl7 = clk ∧ lr7 = lrk ++ [(false, [])] ∧ Q7.cf = f + 1 ∧ Q7.rs = r ∧ Q7.si = n ∧ AL Q7 clk ∧ ¬ Fix (rowsS clk 52) (deny []) := by
            rcases hce with q | q
            · exact q.2
            · rw [hbb] at q; cases q.1
          rw [e1, e2, e3] at w7
          have hl8 := sc6.last e8
          refine V_sr T.mix (by kernel_rfl) (fun K17 hK17 => ?_)
          refine S_mv rfl ?_
          refine S_call T.hb61 rfl ?_
          refine FC.mono (refuted_spec h7 V P X C K la7 lc7 Q7 (lrk ++ [(false, [])]) W7 clk s6 p7 w7 hl8.2.1 (by have h9 := sc6.ln; rw [flatR_app, flatR_one, List.length_append, oneR_len]; simp [dl]; omega)) ?_
          rintro v' h8 ⟨rfl, w8, hX8⟩
          have hX78 := hX67.trans hX8
          have hR8 := (hX78.blk hR3 hRf3).1
          try clear hRok
          have hRok : ∀ j, j < 7 → okPut h8 ⟨h.size, j, none⟩ = true := fun j hj => (hR8).ok (by simpa using hj)
          refine S_stl T.sz82 rfl rfl rfl rfl (fun j hj => by simp (disch := omega) only [hRok, qok, sok hB]) ?_
          generalize hh : putsH _ _ _ _ = hy
          have hRy : B hy (h.size) #[.int .i64 0, .int .i64 0, .bool false, .slice none 0 0, .string (textOf (printB (flatR (lrk ++ [(false, [])])))), .int .i64 (Q7.cf : Int), .int .i64 (Q7.rs : Int)] 82 := by rw [← hh]; exact B.puts_all (hR8) (cs' := #[.int .i64 0, .int .i64 0, .bool false, .slice none 0 0, .string (textOf (printB (flatR (lrk ++ [(false, [])])))), .int .i64 (Q7.cf : Int), .int .i64 (Q7.rs : Int)]) rfl
          have hEhy : Ext (fun k => k = h.size) h8 hy := by rw [← hh]; exact Ext.puts (S := fun k => k = h.size) rfl _ _ _
          clear hh
          refine S_nil (hK17 _ _ (V_keep [4] (by simp only [proj, lk, reduceIte, Nat.reduceEqDiff]; rfl) ?_)); clear hK17
          refine V_ret ?_
          refine hR _ _ (retc1 rfl rfl T.ag82 hRy (by rfl) ?_)
          obtain ⟨hPar8, hPn8, hAn8⟩ := hX78.par hPar3 g.pn hAN1
          have hRf8 := (hX78.blk hR3 hRf3).2
          have gz : GS hy V P X C K la7 lc7 Q7 W7 clk s6 p7 pa1 pc1 := GS.put ⟨w8, hPar8, (qi_end sc6 np6 ai7 e7 (.inr e4) e5 e6), hPn8, hAn8⟩ hEhy hRf8 (by omega) (fun e => by rcases hpa1 _ e with q | q; (have h9 := hpaL _ q; omega); (have h9 := (OwnR.blk2 hP1.ar e).2; have h8 := hX1.2 _ e; rcases h8 with z | z; (have h7 := hpaL _ z; omega); (omega)))
          have gx := (hX78.gex hE03 hlaL hpa1).step hEhy (fun b hb e => by omega)
          exact ⟨la7, lc7, Q7, W7, clk, s6, p7, pa1, pc1, gz, by omega, gx, .inr ⟨hpr0, r, n, f, lrk, sc6, np6, .inr ⟨by rw [e4, e5], e8⟩⟩⟩
        · skip
          have hbb : bb = true := by simpa using c87
          obtain ⟨r2, n2, sc7, nh7, al7, e4, e5, e6, e7⟩ : ∃ r2 n2, SC (csOf t) cl7 s7 r2 n2 (f + 1) lr7 ∧ NH cl7 r2 n2 s7 ∧ AL Q7 cl7 ∧ Q7.cf = f + 1 ∧ Q7.rs = r2 ∧ Q7.si = n2 ∧ Q7.inc = f + 2 := by
            rcases hce with q | q
            · rw [hbb] at q; cases q.1
            · exact q.2
          refine V_skipk [0, 4] (by simp only [proj, lk, reduceIte, Nat.reduceEqDiff]; rfl) ?_
          exact hK12 _ _ ⟨_, by omega, h7, la7, lc7, Q7, lr7, W7, cl7, s7, p7, r2, n2, f + 1, w7, sc7, nh7, al7, ai7, ⟨e4, e5, e6, e7⟩, by omega, by omega, hX67, rfl, rfl, rfl⟩
      · skip
        have hdn : ∀ j, j < 52 → ∀ cc, clk j = some cc → Done (· ∈ lits s6.L) cc := by
          rcases hor6 with q | ⟨id, q1, q2, _⟩
          · exact q.2.2.2
          · omega
        refine V_sr T.mix (by kernel_rfl) (fun K18 hK18 => ?_)
        refine S_mv rfl ?_
        refine S_nc rfl ?_
        first | refine S_fa0 T.f53_1 rfl ?_ | refine S_fa T.f53_1 rfl ?_
        refine S_ldK T.ag30 rfl (fun K' hK' => ?_)
        simp (disch := omega) only [slP hB, slT hB, slW hB, slL hB, slLog hB, slAct hB, slPh hB, slInc hB, slAl hB, slCt hB, slCf hB, slRs hB, slSi hB, q0, q1, q2, oP_some, Nat.add_zero]
        refine hK' _ ?_; clear hK' K'
        refine S_call T.hb48 rfl ?_
        refine FC.mono (len_spec h6 X s6 pk w6.wx.t) ?_
        rintro v' h' ⟨rfl, rfl⟩
        refine S_as rfl ?_
        refine S_nil (hK18 _ _ (V_keep [0, 4, 9] (by simp only [proj, lk, reduceIte, Nat.reduceEqDiff]; rfl) ?_)); clear hK18
        refine V_seq (fun K19 hK19 => ?_)
        refine V_sr T.mix (by kernel_rfl) (fun K20 hK20 => ?_)
        refine S_mv rfl ?_
        refine S_bin rfl rfl rfl ?_
        refine S_nil (hK20 _ _ (V_keep [0, 4, 58] (by simp only [proj, lk, reduceIte, Nat.reduceEqDiff]; rfl) ?_)); clear hK20
        refine V_condp rfl (fun c92 => ?_) (fun c92 => ?_)
        · skip
          refine V_sr T.mix (by kernel_rfl) (fun K21 hK21 => ?_)
          refine S_mv rfl ?_
          refine S_call T.hb62 rfl ?_
          refine FC.mono (satisfied_spec h6 V P X C K lak lck Qk (flatR lrk) W6 clk s6 pk w6) ?_
          rintro v' h8 ⟨ma, rfl, hIm, hbm, w8, hX8⟩
          have hX78 := hX6.trans hX8
          have hR8 := (hX78.blk hR3 hRf3).1
          try clear hRok
          have hRok : ∀ j, j < 7 → okPut h8 ⟨h.size, j, none⟩ = true := fun j hj => (hR8).ok (by simpa using hj)
          refine S_stl T.sz82 rfl rfl rfl rfl (fun j hj => by simp (disch := omega) only [hRok, qok, sok hB]) ?_
          generalize hh : putsH _ _ _ _ = hy
          have hRy : B hy (h.size) #[.int .i64 0, .int .i64 0, .bool true, .slice ma 12 12, .string ⟨#[]⟩, .int .i64 (Qk.cf : Int), .int .i64 (Qk.rs : Int)] 82 := by rw [← hh]; exact B.puts_all (hR8) (cs' := #[.int .i64 0, .int .i64 0, .bool true, .slice ma 12 12, .string ⟨#[]⟩, .int .i64 (Qk.cf : Int), .int .i64 (Qk.rs : Int)]) rfl
          have hEhy : Ext (fun k => k = h.size) h8 hy := by rw [← hh]; exact Ext.puts (S := fun k => k = h.size) rfl _ _ _
          clear hh
          refine S_nil (hK21 _ _ (V_keep [4] (by simp only [proj, lk, reduceIte, Nat.reduceEqDiff]; rfl) ?_)); clear hK21
          refine V_ret ?_
          refine hR _ _ (retc1 rfl rfl T.ag82 hRy (by rfl) ?_)
          obtain ⟨hPar8, hPn8, hAn8⟩ := hX78.par hPar3 g.pn hAN1
          have hRf8 := (hX78.blk hR3 hRf3).2
          have gz : GS hy V P X C K lak lck Qk W6 clk s6 pk pa1 pc1 := GS.put ⟨w8, hPar8, (qi_end sc6 np6 aik alk (.inl hqk.1) hqk.2.1 hqk.2.2.1), hPn8, hAn8⟩ hEhy hRf8 (by omega) (fun e => by rcases hpa1 _ e with q | q; (have h9 := hpaL _ q; omega); (have h9 := (OwnR.blk2 hP1.ar e).2; have h8 := hX1.2 _ e; rcases h8 with z | z; (have h7 := hpaL _ z; omega); (omega)))
          have gx := (hX78.gex hE03 hlaL hpa1).step hEhy (fun b hb e => by omega)
          have hs6 := hX6.1.1
          have hmb : ∀ b, blkA ma = some b → h.size ≤ b ∧ blkA lak ≠ some b ∧ blkA pa1 ≠ some b := fun b e => ⟨by have h9 := hbm b e; omega, fun q => by have h9 := hbm b e; have h8 := (OwnR.blk2 w6.lo q).2; omega, fun q => by have h9 := hbm b e; have h8 := (OwnR.blk2 hP1.ar q).2; omega⟩
          exact ⟨lak, lck, Qk, W6, clk, s6, pk, pa1, pc1, gz, by omega, gx, .inr ⟨hpr0, r, n, f, lrk, sc6, np6, .inl ⟨ma, by rw [hqk.1, hqk.2.1], hIm.ext hEhy (fun b e f => by have h9 := hbm b e; omega), hmb, by omega, hdn⟩⟩⟩
        · skip
          refine V_skipk [0, 4] (by simp only [proj, lk, reduceIte, Nat.reduceEqDiff]; rfl) ?_
          refine hK19 _ _ ?_; clear hK19
          refine V_sr T.mix (by kernel_rfl) (fun K22 hK22 => ?_)
          refine S_mv rfl ?_
          refine S_call T.hb63 rfl ?_
          refine FC.mono (pick_spec h6 V P X C K lak lck Qk (flatR lrk) W6 clk s6 pk w6 aik (by omega)) ?_
          rintro v' h' ⟨dd, rfl, hdd, rfl⟩
          refine S_as rfl ?_
          refine S_nil (hK22 _ _ (V_keep [0, 4, 10] (by simp only [proj, lk, reduceIte, Nat.reduceEqDiff]; rfl) ?_)); clear hK22
          refine V_reg T.mix (by kernel_rfl) ?_
          refine S_mv rfl ?_
          refine S_nc rfl ?_
          first | refine S_fa0 T.f53_1 rfl ?_ | refine S_fa T.f53_1 rfl ?_
          refine S_ldK T.ag30 rfl (fun K' hK' => ?_)
          simp (disch := omega) only [slP hB, slT hB, slW hB, slL hB, slLog hB, slAct hB, slPh hB, slInc hB, slAl hB, slCt hB, slCf hB, slRs hB, slSi hB, q0, q1, q2, oP_some, Nat.add_zero]
          refine hK' _ ?_; clear hK' K'
          refine S_mv rfl ?_
          refine S_call T.hb64 rfl ?_
          refine FC.mono (decide_spec h6 X s6 pk w6.wx.t dd) ?_
          rintro v' h7 ⟨rfl, hr7, hE7⟩
          obtain ⟨sc7, np7⟩ := sc6.dec np6 hdn hdd hr7.ok
          have w7 := w6.trail hE7 hr7 (wi_dec hok6 w6.wx.i dd)
          have hlen7 : (decS s6 dd).L.length = s6.L.length + 1 := by unfold decS; rw [if_pos hdd]; simp
          refine S_nilk [0, 4] (by simp only [proj, lk, reduceIte, Nat.reduceEqDiff]; rfl) ?_
          exact hK12 _ _ ⟨_, by omega, h7, lak, lck, Qk, lrk, W6, clk, _, pk, r, n, f, w7, sc7, np7.nh, alk, aik, hqk, hpk, hfk, hX6.put hE7 (fun k e => .inr (.inl e)), rfl, rfl, rfl⟩
end Go.Proofs.Qxb6500401aGreat
