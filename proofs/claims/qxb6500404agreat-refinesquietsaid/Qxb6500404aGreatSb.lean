import Derived.Test.Qxb6500404aGreatPd
import Derived.Test.Qxb6500404aGreatRb
set_option linter.unusedVariables false
set_option linter.unusedSimpArgs false
namespace Go.Proofs.Qxb6500404aGreat
open Go.Eng Go.Bits Go.Blk HufW

/-! ### the real decoder in the heap -/
structure SA where
  T : Nat
  tb : Nat
  XA : Nat
  XB : Nat
  D : Nat
structure SR where
  held : Bool
  ph : Nat
  fi : Nat
  at_ : Nat
  hd : Nat
  du : Nat
  ls : Nat → Nat
  ix : Nat
  rn : Nat
  ba : Nat
  mo : Nat
  rg : Nat → Int
  w : Nat
  fl : Nat
  bf : Nat → Int
  n : Nat
  tt : Nat
  fed : Nat
def dcs (W : SA) (r : SR) : Array Value := #[.pointer (some ⟨W.T, 0, none⟩), .pointer (some ⟨W.XA, 0, none⟩), .pointer (some ⟨W.XB, 0, none⟩), .bool r.held, .int .i64 (r.ph : Int), .int .i64 (r.fi : Int), .int .i64 (r.at_ : Int), .int .i64 (r.hd : Int), .int .i64 (r.du : Int), .slice (some ⟨W.D + 1, 0, none⟩) 273 273, .int .i64 (r.ix : Int), .int .i64 (r.rn : Int), .int .i64 (r.ba : Int), .int .i64 (r.mo : Int), .slice (some ⟨W.D + 2, 0, none⟩) 16 16, .int .i64 (r.w : Int), .int .i64 (r.fl : Int), .slice (some ⟨W.D + 3, 0, none⟩) 256 256, .int .i64 (r.n : Int), .int .i64 (r.tt : Int), .int .i64 (r.fed : Int)]
theorem dq {h : Heap} {W : SA} {r : SR} (hB : B h W.D (dcs W r) 77) : cellH h ⟨W.D, 0, none⟩ = some (.pointer (some ⟨W.T, 0, none⟩)) ∧ cellH h ⟨W.D, 1, none⟩ = some (.pointer (some ⟨W.XA, 0, none⟩)) ∧ cellH h ⟨W.D, 2, none⟩ = some (.pointer (some ⟨W.XB, 0, none⟩)) ∧ cellH h ⟨W.D, 3, none⟩ = some (.bool r.held) ∧ cellH h ⟨W.D, 4, none⟩ = some (.int .i64 (r.ph : Int)) ∧ cellH h ⟨W.D, 5, none⟩ = some (.int .i64 (r.fi : Int)) ∧ cellH h ⟨W.D, 6, none⟩ = some (.int .i64 (r.at_ : Int)) ∧ cellH h ⟨W.D, 7, none⟩ = some (.int .i64 (r.hd : Int)) ∧ cellH h ⟨W.D, 8, none⟩ = some (.int .i64 (r.du : Int)) ∧ cellH h ⟨W.D, 9, none⟩ = some (.slice (some ⟨W.D + 1, 0, none⟩) 273 273) ∧ cellH h ⟨W.D, 10, none⟩ = some (.int .i64 (r.ix : Int)) ∧ cellH h ⟨W.D, 11, none⟩ = some (.int .i64 (r.rn : Int)) ∧ cellH h ⟨W.D, 12, none⟩ = some (.int .i64 (r.ba : Int)) ∧ cellH h ⟨W.D, 13, none⟩ = some (.int .i64 (r.mo : Int)) ∧ cellH h ⟨W.D, 14, none⟩ = some (.slice (some ⟨W.D + 2, 0, none⟩) 16 16) ∧ cellH h ⟨W.D, 15, none⟩ = some (.int .i64 (r.w : Int)) ∧ cellH h ⟨W.D, 16, none⟩ = some (.int .i64 (r.fl : Int)) ∧ cellH h ⟨W.D, 17, none⟩ = some (.slice (some ⟨W.D + 3, 0, none⟩) 256 256) ∧ cellH h ⟨W.D, 18, none⟩ = some (.int .i64 (r.n : Int)) ∧ cellH h ⟨W.D, 19, none⟩ = some (.int .i64 (r.tt : Int)) ∧ cellH h ⟨W.D, 20, none⟩ = some (.int .i64 (r.fed : Int)) := ⟨hB.cell 0, hB.cell 1, hB.cell 2, hB.cell 3, hB.cell 4, hB.cell 5, hB.cell 6, hB.cell 7, hB.cell 8, hB.cell 9, hB.cell 10, hB.cell 11, hB.cell 12, hB.cell 13, hB.cell 14, hB.cell 15, hB.cell 16, hB.cell 17, hB.cell 18, hB.cell 19, hB.cell 20⟩
theorem dok_ {h : Heap} {W : SA} {r : SR} (hB : B h W.D (dcs W r) 77) : ∀ j, j < 21 → okPut h ⟨W.D, j, none⟩ = true := fun j hj => hB.ok (by simpa [dcs] using hj)
structure Ss (W : SA) : Prop where
  l1 : W.T < W.XA ∧ W.tb < W.XA
  l2 : W.XA + 10 < W.XB
  l3 : W.XB + 10 < W.D
def WTs (W : SA) (z : Nat) : Prop := z = W.T ∨ z = W.tb ∨ CT W.XA z ∨ CT W.XB z ∨ (W.D ≤ z ∧ z ≤ W.D + 3)
theorem wd {W : SA} {o : Nat} (h : o ≤ 3) : WTs W (W.D + o) := .inr (.inr (.inr (.inr ⟨by omega, by omega⟩)))
theorem wd0 {W : SA} : WTs W W.D := .inr (.inr (.inr (.inr ⟨by omega, by omega⟩)))
theorem wsT {W : SA} {z : Nat} (e : z = W.T ∨ z = W.tb) : WTs W z := by rcases e with e | e; (exact .inl e); (exact .inr (.inl e))
structure SW (h : Heap) (W : SA) (r : SR) (s : TS) (ua ub : HC) : Prop where
  sp : Ss W
  x : B h W.D (dcs W r) 77
  l : B h (W.D + 1) (ia 273 r.ls) 3
  g : B h (W.D + 2) (arr 16 fun j => .int .u8 (r.rg j)) 5
  f : B h (W.D + 3) (arr 256 fun j => .int .u8 (r.bf j)) 5
  rt : BitW.RT h W.T W.tb s
  ca : CB h W.XA ua
  cb : CB h W.XB ub
section sw
variable {h h' : Heap} {W : SA} {r r' : SR} {s s' : TS} {ua ub va : HC}
theorem SW.ext (w : SW h W r s ua ub) {S : Nat → Prop} (he : Ext S h h') (hS : ∀ z, WTs W z → ¬ S z) : SW h' W r s ua ub :=
  ⟨w.sp, w.x.ext he (hS _ wd0), w.l.ext he (hS _ (wd (by omega))), w.g.ext he (hS _ (wd (by omega))), w.f.ext he (hS _ (wd (by omega))), w.rt.ext he (hS _ (.inl rfl)) (hS _ (.inr (.inl rfl))), w.ca.ext he (fun z e => hS z (.inr (.inr (.inl e)))), w.cb.ext he (fun z e => hS z (.inr (.inr (.inr (.inl e)))))⟩
theorem SW.new (w : SW h W r s ua ub) (he : Ext (fun _ => False) h h') : SW h' W r s ua ub := w.ext he (fun _ _ f => f)
theorem SW.lt (w : SW h W r s ua ub) {z : Nat} (e : WTs W z) : z < h.size := by
  have h1 := w.f.lt
  have h2 := w.sp.l1; have h3 := w.sp.l2; have h4 := w.sp.l3
  rcases e with e | e | e | e | e
  · omega
  · omega
  · rw [ct_def] at e; omega
  · rw [ct_def] at e; omega
  · omega
theorem SW.nx (w : SW h W r s ua ub) {o : Nat} (ho : o ≤ 3) : W.D + o ≠ W.T ∧ W.D + o ≠ W.tb ∧ ¬ CT W.XA (W.D + o) ∧ ¬ CT W.XB (W.D + o) := by
  have h2 := w.sp.l1; have h3 := w.sp.l2; have h4 := w.sp.l3
  rw [ct_def, ct_def]; omega
theorem SW.sx (w : SW h W r s ua ub) (hx : B h' W.D (dcs W r') 77) (he : Ext (fun z => z = W.D) h h') (e1 : r'.ls = r.ls) (e2 : r'.rg = r.rg) (e3 : r'.bf = r.bf) : SW h' W r' s ua ub := by
  have h2 := w.sp.l1; have h3 := w.sp.l2; have h4 := w.sp.l3
  exact ⟨w.sp, hx, by rw [e1]; exact w.l.ext he (by omega), by rw [e2]; exact w.g.ext he (by omega), by rw [e3]; exact w.f.ext he (by omega), w.rt.ext he (by omega) (by omega), w.ca.ext he (fun z e y => by rw [ct_def] at e; omega), w.cb.ext he (fun z e y => by rw [ct_def] at e; omega)⟩
theorem SW.sl (w : SW h W r s ua ub) {A : Nat → Nat} (hl : B h' (W.D + 1) (ia 273 A) 3) (he : Ext (fun z => z = W.D + 1) h h') : SW h' W { r with ls := A } s ua ub := by
  have h2 := w.sp.l1; have h3 := w.sp.l2; have h4 := w.sp.l3
  exact ⟨w.sp, w.x.ext he (by omega), hl, w.g.ext he (by omega), w.f.ext he (by omega), w.rt.ext he (by omega) (by omega), w.ca.ext he (fun z e y => by rw [ct_def] at e; omega), w.cb.ext he (fun z e y => by rw [ct_def] at e; omega)⟩
theorem SW.sg (w : SW h W r s ua ub) {A : Nat → Int} (hl : B h' (W.D + 2) (arr 16 fun j => .int .u8 (A j)) 5) (he : Ext (fun z => z = W.D + 2) h h') : SW h' W { r with rg := A } s ua ub := by
  have h2 := w.sp.l1; have h3 := w.sp.l2; have h4 := w.sp.l3
  exact ⟨w.sp, w.x.ext he (by omega), w.l.ext he (by omega), hl, w.f.ext he (by omega), w.rt.ext he (by omega) (by omega), w.ca.ext he (fun z e y => by rw [ct_def] at e; omega), w.cb.ext he (fun z e y => by rw [ct_def] at e; omega)⟩
theorem SW.sf (w : SW h W r s ua ub) {A : Nat → Int} (hl : B h' (W.D + 3) (arr 256 fun j => .int .u8 (A j)) 5) (he : Ext (fun z => z = W.D + 3) h h') : SW h' W { r with bf := A } s ua ub := by
  have h2 := w.sp.l1; have h3 := w.sp.l2; have h4 := w.sp.l3
  exact ⟨w.sp, w.x.ext he (by omega), w.l.ext he (by omega), w.g.ext he (by omega), hl, w.rt.ext he (by omega) (by omega), w.ca.ext he (fun z e y => by rw [ct_def] at e; omega), w.cb.ext he (fun z e y => by rw [ct_def] at e; omega)⟩
theorem SW.st (w : SW h W r s ua ub) (ht : BitW.RT h' W.T W.tb s') (he : Ext (fun z => z = W.T ∨ z = W.tb) h h') : SW h' W r s' ua ub := by
  have h2 := w.sp.l1; have h3 := w.sp.l2; have h4 := w.sp.l3
  exact ⟨w.sp, w.x.ext he (by omega), w.l.ext he (by omega), w.g.ext he (by omega), w.f.ext he (by omega), ht, w.ca.ext he (fun z e y => by rw [ct_def] at e; omega), w.cb.ext he (fun z e y => by rw [ct_def] at e; omega)⟩
theorem SW.sa (w : SW h W r s ua ub) (hc : CB h' W.XA va) (he : Ext (CT W.XA) h h') : SW h' W r s va ub := by
  have h2 := w.sp.l1; have h3 := w.sp.l2; have h4 := w.sp.l3
  exact ⟨w.sp, w.x.ext he (by rw [ct_def]; omega), w.l.ext he (by rw [ct_def]; omega), w.g.ext he (by rw [ct_def]; omega), w.f.ext he (by rw [ct_def]; omega), w.rt.ext he (by rw [ct_def]; omega) (by rw [ct_def]; omega), hc, w.cb.ext he (fun z e y => by rw [ct_def] at e y; omega)⟩
theorem SW.sbb (w : SW h W r s ua ub) (hc : CB h' W.XB va) (he : Ext (CT W.XB) h h') : SW h' W r s ua va := by
  have h2 := w.sp.l1; have h3 := w.sp.l2; have h4 := w.sp.l3
  exact ⟨w.sp, w.x.ext he (by rw [ct_def]; omega), w.l.ext he (by rw [ct_def]; omega), w.g.ext he (by rw [ct_def]; omega), w.f.ext he (by rw [ct_def]; omega), w.rt.ext he (by rw [ct_def]; omega) (by rw [ct_def]; omega), w.ca.ext he (fun z e y => by rw [ct_def] at e y; omega), hc⟩
theorem SW.eq (w : SW h W r s ua ub) (e : s = s') : SW h W r s' ua ub := e ▸ w
end sw
def giv (r : SR) (c : Int) : SR := { r with bf := Huf.ups r.bf r.n c, n := r.n + 1, rg := Huf.ups r.rg r.w c, w := if r.w + 1 = 16 then 0 else r.w + 1, fl := if r.fl < 16 then r.fl + 1 else r.fl, tt := r.tt + 1 }
theorem u8_put {h : Heap} {b n : Nat} {f : Nat → Int} (hb : B h b (arr n fun j => .int .u8 (f j)) 5) (i : Nat) (x : Int) : B (putH h ⟨b, i, none⟩ (.int .u8 x)) b (arr n fun j => .int .u8 (Huf.ups f i x j)) 5 := (B.putA hb i _).cong (arr_ext fun j _ => by unfold Huf.ups; split <;> rfl)
def rse (r : SR) : SR := { r with ph := 0, fi := 0, at_ := 0, hd := 0, w := 0, fl := 0, n := 0, tt := 0, fed := 0 }
set_option maxHeartbeats 400000 in
theorem shut_spec (h : Heap) (W : SA) (r : SR) (s : TS) (ua ub : HC) (sw : SW h W r s ua ub) :
    FC Tryz.prog 170 (#[.pointer (some ⟨W.D, 0, none⟩)] : Array Value) h fun rv h' => rv = .tuple #[] ∧ SW h' W { r with ph := if r.fi = 0 then 0 else 8 } (if r.fi = 0 then s else syncS s) ua ub ∧ Ext (WTs W) h h' := by
  try clear q0 q1 q2 q3 q4 q5 q6 q7 q8 q9 q10 q11 q12 q13 q14 q15 q16 q17 q18 q19 q20 dok
  obtain ⟨q0, q1, q2, q3, q4, q5, q6, q7, q8, q9, q10, q11, q12, q13, q14, q15, q16, q17, q18, q19, q20⟩ := dq (sw.x)
  have dok := dok_ (sw.x)
  refine FC_of [(0, .pointer (some ⟨W.D, 0, none⟩))] Tryz.func170 rfl Tryz.ntmps170 (by simp) rfl (fun R hR => ?_)
  refine V_seq (fun K1 hK1 => ?_)
  refine V_sr T.mix (by kernel_rfl) (fun K2 hK2 => ?_)
  refine S_mv rfl ?_
  refine S_nc rfl ?_
  first | refine S_fa0 T.f77_5 rfl ?_ | refine S_fa T.f77_5 rfl ?_
  refine S_ldK T.ag3 rfl (fun K' hK' => ?_)
  simp (disch := omega) only [q0, q1, q2, q3, q4, q5, q6, q7, q8, q9, q10, q11, q12, q13, q14, q15, q16, q17, q18, q19, q20, oP_some, Nat.add_zero]
  refine hK' _ ?_; clear hK' K'
  refine S_bin rfl rfl rfl ?_
  refine S_nil (hK2 _ _ (V_keep [0, 6] (by simp only [proj, lk, reduceIte, Nat.reduceEqDiff]; rfl) ?_)); clear hK2
  refine V_condp rfl (fun c106 => ?_) (fun c106 => ?_)
  · skip
    refine V_sr T.mix (by kernel_rfl) (fun K3 hK3 => ?_)
    refine S_mv rfl ?_
    refine S_nc rfl ?_
    first | refine S_fa0 T.f77_4 rfl ?_ | refine S_fa T.f77_4 rfl ?_
    refine S_st T.sz3 rfl rfl rfl rfl (by simp (disch := omega) only [dok]) ?_
    generalize hh : putH _ _ _ = h1
    have sw1 := sw.sx (h' := h1) (r' := { r with ph := 0 }) (by rw [← hh]; exact (sw.x.put 4 _).cong (by simp [dcs])) (by rw [← hh]; exact Ext.put _ _ rfl) rfl rfl rfl
    have hEh1 : Ext (WTs W) h h1 := by rw [← hh]; exact Ext.put _ _ wd0
    clear hh
    try clear q0 q1 q2 q3 q4 q5 q6 q7 q8 q9 q10 q11 q12 q13 q14 q15 q16 q17 q18 q19 q20 dok
    obtain ⟨q0, q1, q2, q3, q4, q5, q6, q7, q8, q9, q10, q11, q12, q13, q14, q15, q16, q17, q18, q19, q20⟩ := dq (sw1.x)
    have dok := dok_ (sw1.x)
    refine S_nil (hK3 _ _ (V_keep [] (by simp only [proj, lk, reduceIte, Nat.reduceEqDiff]; rfl) ?_)); clear hK3
    refine V_ret ?_
    refine hR _ _ (ret0 rfl ?_)
    have hf0 : r.fi = 0 := by omega
    rw [if_pos hf0, if_pos hf0]
    exact ⟨rfl, sw1, hEh1⟩
  · skip
    refine V_skipk [0] (by simp only [proj, lk, reduceIte, Nat.reduceEqDiff]; rfl) ?_
    refine hK1 _ _ ?_; clear hK1
    refine V_sr T.mix (by kernel_rfl) (fun K4 hK4 => ?_)
    refine S_mv rfl ?_
    refine S_nc rfl ?_
    first | refine S_fa0 T.f77_0 rfl ?_ | refine S_fa T.f77_0 rfl ?_
    refine S_ldK T.ag47 rfl (fun K' hK' => ?_)
    simp (disch := omega) only [q0, q1, q2, q3, q4, q5, q6, q7, q8, q9, q10, q11, q12, q13, q14, q15, q16, q17, q18, q19, q20, oP_some, Nat.add_zero]
    refine hK' _ ?_; clear hK' K'
    refine S_call T.hb167 rfl ?_
    refine FC.mono (BitW.sync_spec h W.T W.tb s sw.rt) ?_
    rintro v' h1 ⟨rfl, rt1, hX1⟩
    have sw1 := sw.st rt1 hX1
    have hEh1 : Ext (WTs W) h h1 := hX1.mono fun _ e => wsT e
    try clear q0 q1 q2 q3 q4 q5 q6 q7 q8 q9 q10 q11 q12 q13 q14 q15 q16 q17 q18 q19 q20 dok
    obtain ⟨q0, q1, q2, q3, q4, q5, q6, q7, q8, q9, q10, q11, q12, q13, q14, q15, q16, q17, q18, q19, q20⟩ := dq (sw1.x)
    have dok := dok_ (sw1.x)
    refine S_nil (hK4 _ _ (V_keep [0] (by simp only [proj, lk, reduceIte, Nat.reduceEqDiff]; rfl) ?_)); clear hK4
    refine V_reg T.mix (by kernel_rfl) ?_
    refine S_mv rfl ?_
    refine S_nc rfl ?_
    first | refine S_fa0 T.f77_4 rfl ?_ | refine S_fa T.f77_4 rfl ?_
    refine S_st T.sz3 rfl rfl rfl rfl (by simp (disch := omega) only [dok]) ?_
    generalize hh : putH _ _ _ = h2
    have sw2 := sw1.sx (h' := h2) (r' := { r with ph := 8 }) (by rw [← hh]; exact (sw1.x.put 4 _).cong (by simp [dcs])) (by rw [← hh]; exact Ext.put _ _ rfl) rfl rfl rfl
    have hEh2 : Ext (WTs W) h1 h2 := by rw [← hh]; exact Ext.put _ _ wd0
    clear hh
    try clear q0 q1 q2 q3 q4 q5 q6 q7 q8 q9 q10 q11 q12 q13 q14 q15 q16 q17 q18 q19 q20 dok
    obtain ⟨q0, q1, q2, q3, q4, q5, q6, q7, q8, q9, q10, q11, q12, q13, q14, q15, q16, q17, q18, q19, q20⟩ := dq (sw2.x)
    have dok := dok_ (sw2.x)
    refine S_nilk [] (by simp only [proj, lk, reduceIte, Nat.reduceEqDiff]; rfl) ?_
    -- end
    refine hR _ _ (ret0 rfl ?_)
    have hf0 : r.fi ≠ 0 := by omega
    rw [if_neg hf0, if_neg hf0]
    exact ⟨rfl, sw2, hEh1.trans hEh2⟩
set_option maxHeartbeats 1600000 in
theorem give_spec (h : Heap) (W : SA) (r : SR) (s : TS) (ua ub : HC) (sw : SW h W r s ua ub) (c : Int) (hn : r.n < 256) (hw : r.w < 16) (ht : r.tt < 256) :
    FC Tryz.prog 171 (#[.pointer (some ⟨W.D, 0, none⟩), .int .u8 c] : Array Value) h fun rv h' => rv = .tuple #[] ∧ SW h' W (giv r c) s ua ub ∧ Ext (WTs W) h h' := by
  try clear q0 q1 q2 q3 q4 q5 q6 q7 q8 q9 q10 q11 q12 q13 q14 q15 q16 q17 q18 q19 q20 dok
  obtain ⟨q0, q1, q2, q3, q4, q5, q6, q7, q8, q9, q10, q11, q12, q13, q14, q15, q16, q17, q18, q19, q20⟩ := dq (sw.x)
  have dok := dok_ (sw.x)
  have bok : ∀ j, j < 256 → okPut h ⟨W.D + 3, j, none⟩ = true := fun j hj => sw.f.okA hj
  have gok := bok
  refine FC_of [(0, .pointer (some ⟨W.D, 0, none⟩)), (1, .int .u8 c)] Tryz.func171 rfl Tryz.ntmps171 (by simp) rfl (fun R hR => ?_)
  refine V_sr T.mix (by kernel_rfl) (fun K1 hK1 => ?_)
  refine S_mv rfl ?_
  refine S_nc rfl ?_
  first | refine S_fa0 T.f77_17 rfl ?_ | refine S_fa T.f77_17 rfl ?_
  refine S_ldK T.ag55 rfl (fun K' hK' => ?_)
  simp (disch := omega) only [q0, q1, q2, q3, q4, q5, q6, q7, q8, q9, q10, q11, q12, q13, q14, q15, q16, q17, q18, q19, q20, oP_some, Nat.add_zero]
  refine hK' _ ?_; clear hK' K'
  refine S_mv rfl ?_
  refine S_nc rfl ?_
  first | refine S_fa0 T.f77_18 rfl ?_ | refine S_fa T.f77_18 rfl ?_
  refine S_ldK T.ag3 rfl (fun K' hK' => ?_)
  simp (disch := omega) only [q0, q1, q2, q3, q4, q5, q6, q7, q8, q9, q10, q11, q12, q13, q14, q15, q16, q17, q18, q19, q20, oP_some, Nat.add_zero]
  refine hK' _ ?_; clear hK' K'
  refine S_mv rfl ?_
  first | refine S_ixn T.el55 rfl rfl (by omega) ?_ | refine S_ix1 T.el55 rfl rfl (by omega) (by omega) ?_ | refine S_ix T.el55 rfl rfl (by omega) (by omega) ?_
  refine S_st T.sz5 rfl rfl rfl rfl (by simp (disch := omega) only [bok]) ?_
  generalize hh : putH _ _ _ = h1
  have sw1 := sw.sf (h' := h1) (by rw [← hh]; exact u8_put sw.f r.n c) (by rw [← hh]; exact Ext.put _ _ rfl)
  have hEh1 : Ext (WTs W) h h1 := by rw [← hh]; exact Ext.put _ _ (wd (by omega))
  clear hh
  try clear q0 q1 q2 q3 q4 q5 q6 q7 q8 q9 q10 q11 q12 q13 q14 q15 q16 q17 q18 q19 q20 dok
  obtain ⟨q0, q1, q2, q3, q4, q5, q6, q7, q8, q9, q10, q11, q12, q13, q14, q15, q16, q17, q18, q19, q20⟩ := dq (sw1.x)
  have dok := dok_ (sw1.x)
  refine S_nil (hK1 _ _ (V_keep [0, 1] (by simp only [proj, lk, reduceIte, Nat.reduceEqDiff]; rfl) ?_)); clear hK1
  refine V_sr T.mix (by kernel_rfl) (fun K2 hK2 => ?_)
  refine S_mv rfl ?_
  refine S_nc rfl ?_
  first | refine S_fa0 T.f77_18 rfl ?_ | refine S_fa T.f77_18 rfl ?_
  refine S_ldK T.ag3 rfl (fun K' hK' => ?_)
  simp (disch := omega) only [q0, q1, q2, q3, q4, q5, q6, q7, q8, q9, q10, q11, q12, q13, q14, q15, q16, q17, q18, q19, q20, oP_some, Nat.add_zero]
  refine hK' _ ?_; clear hK' K'
  refine S_addN (r.n + 1) rfl rfl (by omega) (by omega) ?_
  refine S_nc rfl ?_
  first | refine S_fa0 T.f77_18 rfl ?_ | refine S_fa T.f77_18 rfl ?_
  refine S_st T.sz3 rfl rfl rfl rfl (by simp (disch := omega) only [dok]) ?_
  generalize hh : putH _ _ _ = h2
  have sw2 := sw1.sx (h' := h2) (r' := { { r with bf := Huf.ups r.bf r.n c } with n := r.n + 1 }) (by rw [← hh]; exact (sw1.x.put 18 _).cong (by simp [dcs])) (by rw [← hh]; exact Ext.put _ _ rfl) rfl rfl rfl
  have hEh2 : Ext (WTs W) h1 h2 := by rw [← hh]; exact Ext.put _ _ wd0
  clear hh
  try clear q0 q1 q2 q3 q4 q5 q6 q7 q8 q9 q10 q11 q12 q13 q14 q15 q16 q17 q18 q19 q20 dok
  obtain ⟨q0, q1, q2, q3, q4, q5, q6, q7, q8, q9, q10, q11, q12, q13, q14, q15, q16, q17, q18, q19, q20⟩ := dq (sw2.x)
  have dok := dok_ (sw2.x)
  clear gok
  have gok : ∀ j, j < 16 → okPut h2 ⟨W.D + 2, j, none⟩ = true := fun j hj => sw2.g.okA hj
  refine S_nil (hK2 _ _ (V_keep [0, 1] (by simp only [proj, lk, reduceIte, Nat.reduceEqDiff]; rfl) ?_)); clear hK2
  refine V_sr T.mix (by kernel_rfl) (fun K3 hK3 => ?_)
  refine S_mv rfl ?_
  refine S_nc rfl ?_
  first | refine S_fa0 T.f77_14 rfl ?_ | refine S_fa T.f77_14 rfl ?_
  refine S_ldK T.ag55 rfl (fun K' hK' => ?_)
  simp (disch := omega) only [q0, q1, q2, q3, q4, q5, q6, q7, q8, q9, q10, q11, q12, q13, q14, q15, q16, q17, q18, q19, q20, oP_some, Nat.add_zero]
  refine hK' _ ?_; clear hK' K'
  refine S_mv rfl ?_
  refine S_nc rfl ?_
  first | refine S_fa0 T.f77_15 rfl ?_ | refine S_fa T.f77_15 rfl ?_
  refine S_ldK T.ag3 rfl (fun K' hK' => ?_)
  simp (disch := omega) only [q0, q1, q2, q3, q4, q5, q6, q7, q8, q9, q10, q11, q12, q13, q14, q15, q16, q17, q18, q19, q20, oP_some, Nat.add_zero]
  refine hK' _ ?_; clear hK' K'
  refine S_mv rfl ?_
  first | refine S_ixn T.el55 rfl rfl (by omega) ?_ | refine S_ix1 T.el55 rfl rfl (by omega) (by omega) ?_ | refine S_ix T.el55 rfl rfl (by omega) (by omega) ?_
  refine S_st T.sz5 rfl rfl rfl rfl (by simp (disch := omega) only [gok]) ?_
  generalize hh : putH _ _ _ = h3
  have sw3 := sw2.sg (h' := h3) (by rw [← hh]; exact u8_put sw2.g r.w c) (by rw [← hh]; exact Ext.put _ _ rfl)
  have hEh3 : Ext (WTs W) h2 h3 := by rw [← hh]; exact Ext.put _ _ (wd (by omega))
  clear hh
  try clear q0 q1 q2 q3 q4 q5 q6 q7 q8 q9 q10 q11 q12 q13 q14 q15 q16 q17 q18 q19 q20 dok
  obtain ⟨q0, q1, q2, q3, q4, q5, q6, q7, q8, q9, q10, q11, q12, q13, q14, q15, q16, q17, q18, q19, q20⟩ := dq (sw3.x)
  have dok := dok_ (sw3.x)
  refine S_nil (hK3 _ _ (V_keep [0] (by simp only [proj, lk, reduceIte, Nat.reduceEqDiff]; rfl) ?_)); clear hK3
  refine V_sr T.mix (by kernel_rfl) (fun K4 hK4 => ?_)
  refine S_mv rfl ?_
  refine S_nc rfl ?_
  first | refine S_fa0 T.f77_15 rfl ?_ | refine S_fa T.f77_15 rfl ?_
  refine S_ldK T.ag3 rfl (fun K' hK' => ?_)
  simp (disch := omega) only [q0, q1, q2, q3, q4, q5, q6, q7, q8, q9, q10, q11, q12, q13, q14, q15, q16, q17, q18, q19, q20, oP_some, Nat.add_zero]
  refine hK' _ ?_; clear hK' K'
  refine S_addN (r.w + 1) rfl rfl (by omega) (by omega) ?_
  refine S_nc rfl ?_
  first | refine S_fa0 T.f77_15 rfl ?_ | refine S_fa T.f77_15 rfl ?_
  refine S_st T.sz3 rfl rfl rfl rfl (by simp (disch := omega) only [dok]) ?_
  generalize hh : putH _ _ _ = h4
  have sw4 := sw3.sx (h' := h4) (r' := { { { { r with bf := Huf.ups r.bf r.n c } with n := r.n + 1 } with rg := Huf.ups r.rg r.w c } with w := r.w + 1 }) (by rw [← hh]; exact (sw3.x.put 15 _).cong (by simp [dcs])) (by rw [← hh]; exact Ext.put _ _ rfl) rfl rfl rfl
  have hEh4 : Ext (WTs W) h3 h4 := by rw [← hh]; exact Ext.put _ _ wd0
  clear hh
  try clear q0 q1 q2 q3 q4 q5 q6 q7 q8 q9 q10 q11 q12 q13 q14 q15 q16 q17 q18 q19 q20 dok
  obtain ⟨q0, q1, q2, q3, q4, q5, q6, q7, q8, q9, q10, q11, q12, q13, q14, q15, q16, q17, q18, q19, q20⟩ := dq (sw4.x)
  have dok := dok_ (sw4.x)
  refine S_nil (hK4 _ _ (V_keep [0] (by simp only [proj, lk, reduceIte, Nat.reduceEqDiff]; rfl) ?_)); clear hK4
  refine V_seqJ (fun l h' => ∃ (h6 : Heap) (r6 : SR), (SW h6 W r6 s ua ub) ∧ (r6 = { { { { r with bf := Huf.ups r.bf r.n c } with n := r.n + 1 } with rg := Huf.ups r.rg r.w c } with w := if r.w + 1 = 16 then 0 else r.w + 1 }) ∧ (Ext (WTs W) h h6) ∧ l = [(0, .pointer (some ⟨W.D, 0, none⟩))] ∧ h6 = h') ?_ ?_
  · skip
    refine V_sr T.mix (by kernel_rfl) (fun K6 hK6 => ?_)
    refine S_mv rfl ?_
    refine S_nc rfl ?_
    first | refine S_fa0 T.f77_15 rfl ?_ | refine S_fa T.f77_15 rfl ?_
    refine S_ldK T.ag3 rfl (fun K' hK' => ?_)
    simp (disch := omega) only [q0, q1, q2, q3, q4, q5, q6, q7, q8, q9, q10, q11, q12, q13, q14, q15, q16, q17, q18, q19, q20, oP_some, Nat.add_zero]
    refine hK' _ ?_; clear hK' K'
    refine S_bin rfl rfl rfl ?_
    refine S_nil (hK6 _ _ (V_keep [0, 42] (by simp only [proj, lk, reduceIte, Nat.reduceEqDiff]; rfl) ?_)); clear hK6
    refine V_condp rfl (fun c79 => ?_) (fun c79 => ?_)
    · skip
      refine V_reg T.mix (by kernel_rfl) ?_
      refine S_mv rfl ?_
      refine S_nc rfl ?_
      first | refine S_fa0 T.f77_15 rfl ?_ | refine S_fa T.f77_15 rfl ?_
      refine S_st T.sz3 rfl rfl rfl rfl (by simp (disch := omega) only [dok]) ?_
      generalize hh : putH _ _ _ = h5
      have sw5 := sw4.sx (h' := h5) (r' := { { { { { r with bf := Huf.ups r.bf r.n c } with n := r.n + 1 } with rg := Huf.ups r.rg r.w c } with w := r.w + 1 } with w := 0 }) (by rw [← hh]; exact (sw4.x.put 15 _).cong (by simp [dcs])) (by rw [← hh]; exact Ext.put _ _ rfl) rfl rfl rfl
      have hEh5 : Ext (WTs W) h4 h5 := by rw [← hh]; exact Ext.put _ _ wd0
      clear hh
      try clear q0 q1 q2 q3 q4 q5 q6 q7 q8 q9 q10 q11 q12 q13 q14 q15 q16 q17 q18 q19 q20 dok
      obtain ⟨q0, q1, q2, q3, q4, q5, q6, q7, q8, q9, q10, q11, q12, q13, q14, q15, q16, q17, q18, q19, q20⟩ := dq (sw5.x)
      have dok := dok_ (sw5.x)
      refine S_nilk [0] (by simp only [proj, lk, reduceIte, Nat.reduceEqDiff]; rfl) ?_
      exact ⟨h5, _, sw5, by rw [if_pos (by omega)], (((hEh1.trans hEh2).trans hEh3).trans hEh4).trans hEh5, rfl, rfl⟩
    · skip
      refine V_skipk [0] (by simp only [proj, lk, reduceIte, Nat.reduceEqDiff]; rfl) ?_
      exact ⟨h4, _, sw4, by rw [if_neg (by omega)], ((hEh1.trans hEh2).trans hEh3).trans hEh4, rfl, rfl⟩
  rintro l h' ⟨h6, r6, sw6, hr6, hE6, rfl, rfl⟩
  have ef : r6.fl = r.fl := by rw [hr6]
  have et : r6.tt = r.tt := by rw [hr6]
  try clear q0 q1 q2 q3 q4 q5 q6 q7 q8 q9 q10 q11 q12 q13 q14 q15 q16 q17 q18 q19 q20 dok
  obtain ⟨q0, q1, q2, q3, q4, q5, q6, q7, q8, q9, q10, q11, q12, q13, q14, q15, q16, q17, q18, q19, q20⟩ := dq (sw6.x)
  have dok := dok_ (sw6.x)
  rw [ef] at q16
  rw [et] at q19
  refine V_seqJ (fun l h' => ∃ (h8 : Heap) (r8 : SR), (SW h8 W r8 s ua ub) ∧ (r8 = { r6 with fl := if r.fl < 16 then r.fl + 1 else r.fl }) ∧ (Ext (WTs W) h h8) ∧ l = [(0, .pointer (some ⟨W.D, 0, none⟩))] ∧ h8 = h') ?_ ?_
  · skip
    refine V_sr T.mix (by kernel_rfl) (fun K8 hK8 => ?_)
    refine S_mv rfl ?_
    refine S_nc rfl ?_
    first | refine S_fa0 T.f77_16 rfl ?_ | refine S_fa T.f77_16 rfl ?_
    refine S_ldK T.ag3 rfl (fun K' hK' => ?_)
    simp (disch := omega) only [q0, q1, q2, q3, q4, q5, q6, q7, q8, q9, q10, q11, q12, q13, q14, q15, q16, q17, q18, q19, q20, oP_some, Nat.add_zero]
    refine hK' _ ?_; clear hK' K'
    refine S_bin rfl rfl rfl ?_
    refine S_nil (hK8 _ _ (V_keep [0, 50] (by simp only [proj, lk, reduceIte, Nat.reduceEqDiff]; rfl) ?_)); clear hK8
    refine V_condp rfl (fun c82 => ?_) (fun c82 => ?_)
    · skip
      refine V_reg T.mix (by kernel_rfl) ?_
      refine S_mv rfl ?_
      refine S_nc rfl ?_
      first | refine S_fa0 T.f77_16 rfl ?_ | refine S_fa T.f77_16 rfl ?_
      refine S_ldK T.ag3 rfl (fun K' hK' => ?_)
      simp (disch := omega) only [q0, q1, q2, q3, q4, q5, q6, q7, q8, q9, q10, q11, q12, q13, q14, q15, q16, q17, q18, q19, q20, oP_some, Nat.add_zero]
      refine hK' _ ?_; clear hK' K'
      refine S_addN (r.fl + 1) rfl rfl (by omega) (by omega) ?_
      refine S_nc rfl ?_
      first | refine S_fa0 T.f77_16 rfl ?_ | refine S_fa T.f77_16 rfl ?_
      refine S_st T.sz3 rfl rfl rfl rfl (by simp (disch := omega) only [dok]) ?_
      generalize hh : putH _ _ _ = h7
      have sw7 := sw6.sx (h' := h7) (r' := { r6 with fl := r.fl + 1 }) (by rw [← hh]; exact (sw6.x.put 16 _).cong (by simp [dcs])) (by rw [← hh]; exact Ext.put _ _ rfl) rfl rfl rfl
      have hEh7 : Ext (WTs W) h6 h7 := by rw [← hh]; exact Ext.put _ _ wd0
      clear hh
      try clear q0 q1 q2 q3 q4 q5 q6 q7 q8 q9 q10 q11 q12 q13 q14 q15 q16 q17 q18 q19 q20 dok
      obtain ⟨q0, q1, q2, q3, q4, q5, q6, q7, q8, q9, q10, q11, q12, q13, q14, q15, q16, q17, q18, q19, q20⟩ := dq (sw7.x)
      have dok := dok_ (sw7.x)
      refine S_nilk [0] (by simp only [proj, lk, reduceIte, Nat.reduceEqDiff]; rfl) ?_
      exact ⟨h7, _, sw7, by rw [if_pos (by omega)], hE6.trans hEh7, rfl, rfl⟩
    · skip
      refine V_skipk [0] (by simp only [proj, lk, reduceIte, Nat.reduceEqDiff]; rfl) ?_
      exact ⟨h6, _, sw6, by rw [if_neg (by omega), ← ef], hE6, rfl, rfl⟩
  rintro l h' ⟨h8, r8, sw8, hr8, hE8, rfl, rfl⟩
  have et8 : r8.tt = r.tt := by rw [hr8]; exact et
  try clear q0 q1 q2 q3 q4 q5 q6 q7 q8 q9 q10 q11 q12 q13 q14 q15 q16 q17 q18 q19 q20 dok
  obtain ⟨q0, q1, q2, q3, q4, q5, q6, q7, q8, q9, q10, q11, q12, q13, q14, q15, q16, q17, q18, q19, q20⟩ := dq (sw8.x)
  have dok := dok_ (sw8.x)
  rw [et8] at q19
  refine V_reg T.mix (by kernel_rfl) ?_
  refine S_mv rfl ?_
  refine S_nc rfl ?_
  first | refine S_fa0 T.f77_19 rfl ?_ | refine S_fa T.f77_19 rfl ?_
  refine S_ldK T.ag3 rfl (fun K' hK' => ?_)
  simp (disch := omega) only [q0, q1, q2, q3, q4, q5, q6, q7, q8, q9, q10, q11, q12, q13, q14, q15, q16, q17, q18, q19, q20, oP_some, Nat.add_zero]
  refine hK' _ ?_; clear hK' K'
  refine S_addN (r.tt + 1) rfl rfl (by omega) (by omega) ?_
  refine S_nc rfl ?_
  first | refine S_fa0 T.f77_19 rfl ?_ | refine S_fa T.f77_19 rfl ?_
  refine S_st T.sz3 rfl rfl rfl rfl (by simp (disch := omega) only [dok]) ?_
  generalize hh : putH _ _ _ = h9
  have sw9 := sw8.sx (h' := h9) (r' := { r8 with tt := r.tt + 1 }) (by rw [← hh]; exact (sw8.x.put 19 _).cong (by simp [dcs])) (by rw [← hh]; exact Ext.put _ _ rfl) rfl rfl rfl
  have hEh9 : Ext (WTs W) h8 h9 := by rw [← hh]; exact Ext.put _ _ wd0
  clear hh
  try clear q0 q1 q2 q3 q4 q5 q6 q7 q8 q9 q10 q11 q12 q13 q14 q15 q16 q17 q18 q19 q20 dok
  obtain ⟨q0, q1, q2, q3, q4, q5, q6, q7, q8, q9, q10, q11, q12, q13, q14, q15, q16, q17, q18, q19, q20⟩ := dq (sw9.x)
  have dok := dok_ (sw9.x)
  refine S_nilk [] (by simp only [proj, lk, reduceIte, Nat.reduceEqDiff]; rfl) ?_
  -- end
  refine hR _ _ (ret0 rfl ?_)
  have hgv : giv r c = { r8 with tt := r.tt + 1 } := by rw [hr8, hr6]; rfl
  rw [hgv]
  exact ⟨rfl, sw9, hE8.trans hEh9⟩
set_option maxHeartbeats 800000 in
theorem sfixed_spec (h : Heap) (W : SA) (r : SR) (s : TS) (ua ub : HC) (sw : SW h W r s ua ub) :
    FC Tryz.prog 168 (#[.pointer (some ⟨W.D, 0, none⟩)] : Array Value) h fun rv h' => rv = .tuple #[] ∧ (∃ A : Nat → Nat, (∀ j, j < 273 → A j = fixL.getD j 0) ∧ SW h' W { r with ls := A } s ua ub) ∧ Ext (WTs W) h h' := by
  try clear q0 q1 q2 q3 q4 q5 q6 q7 q8 q9 q10 q11 q12 q13 q14 q15 q16 q17 q18 q19 q20 dok
  obtain ⟨q0, q1, q2, q3, q4, q5, q6, q7, q8, q9, q10, q11, q12, q13, q14, q15, q16, q17, q18, q19, q20⟩ := dq (sw.x)
  have dok := dok_ (sw.x)
  have lok := ia_ok sw.l
  refine FC_of [(0, .pointer (some ⟨W.D, 0, none⟩))] Tryz.func168 rfl Tryz.ntmps168 (by simp) rfl (fun R hR => ?_)
  refine V_seq (fun K1 hK1 => ?_)
  refine V_sr T.mix (by kernel_rfl) (fun K2 hK2 => ?_)
  refine S_as rfl ?_
  refine S_nil (hK2 _ _ (V_keep [0, 2] (by simp only [proj, lk, reduceIte, Nat.reduceEqDiff]; rfl) ?_)); clear hK2
  refine V_block ?_
  refine V_loop (fun m l h' => ∃ (s_ : Nat) (hk : Heap) (A : Nat → Nat), (s_ ≤ 265) ∧ (SW hk W { r with ls := A } s ua ub) ∧ (∀ j, j < s_ → A j = fixL.getD j 0) ∧ (Ext (WTs W) h hk) ∧ m = 265 - s_ ∧ l = [(0, .pointer (some ⟨W.D, 0, none⟩)), (2, .int .i64 (s_ : Int))] ∧ hk = h') _ ⟨0, h, r.ls, Nat.zero_le _, sw, fun j hj => by omega, Ext.refl _ _, rfl, rfl, rfl⟩ ?_
  rintro m l h' ⟨s_, hk, A, hs, swk, hA, hEk, rfl, rfl, rfl⟩ K3 hK3
  try clear q0 q1 q2 q3 q4 q5 q6 q7 q8 q9 q10 q11 q12 q13 q14 q15 q16 q17 q18 q19 q20 dok
  obtain ⟨q0, q1, q2, q3, q4, q5, q6, q7, q8, q9, q10, q11, q12, q13, q14, q15, q16, q17, q18, q19, q20⟩ := dq (swk.x)
  have dok := dok_ (swk.x)
  try clear lok
  have lok := ia_ok swk.l
  refine V_seq (fun K4 hK4 => ?_)
  refine V_sr T.mix (by kernel_rfl) (fun K5 hK5 => ?_)
  refine S_mv rfl ?_
  refine S_bin rfl rfl rfl ?_
  refine S_nil (hK5 _ _ (V_keep [0, 2, 5] (by simp only [proj, lk, reduceIte, Nat.reduceEqDiff]; rfl) ?_)); clear hK5
  refine V_condp rfl (fun c61 => ?_) (fun c61 => ?_)
  · skip
    refine V_skipk [0, 2] (by simp only [proj, lk, reduceIte, Nat.reduceEqDiff]; rfl) ?_
    refine hK4 _ _ ?_; clear hK4
    refine V_seq (fun K6 hK6 => ?_)
    refine V_block ?_
    refine V_regM #[0, 1, 2, 3, 4, 5, 6, 7, 8] [0, 1, 2, 3, 4, 5] 6 [7, 8] T.mix (by kernel_rfl) rfl ⟨rfl, rfl⟩ ?_
    refine S_mv rfl ?_
    refine S_nc rfl ?_
    first | refine S_fa0 T.f77_9 rfl ?_ | refine S_fa T.f77_9 rfl ?_
    refine S_ldK T.ag56 rfl (fun K' hK' => ?_)
    simp (disch := omega) only [q0, q1, q2, q3, q4, q5, q6, q7, q8, q9, q10, q11, q12, q13, q14, q15, q16, q17, q18, q19, q20, oP_some, Nat.add_zero]
    refine hK' _ ?_; clear hK' K'
    refine S_mv rfl ?_
    refine S_mv rfl ?_
    refine S_nil ?_
    refine SM_call T.hb106 rfl ?_
    refine FC.mono (fixedlen_spec hk s_ (by omega)) ?_
    rintro v' h' ⟨rfl, rfl⟩
    first | refine ⟨Grows.refl _, ?_⟩ | refine ⟨Grows.of_ext (by assumption), ?_⟩
    first | refine S_ixn T.el56 rfl rfl (by omega) ?_ | refine S_ix1 T.el56 rfl rfl (by omega) (by omega) ?_ | refine S_ix T.el56 rfl rfl (by omega) (by omega) ?_
    refine S_st T.sz3 rfl rfl rfl rfl (by simp (disch := omega) only [lok]) ?_
    generalize hh : putH _ _ _ = h1
    have swn := swk.sl (h' := h1) (by rw [← hh]; exact ia_put swk.l (s_) (fixL.getD s_ 0)) (by rw [← hh]; exact Ext.put _ _ rfl)
    have hEh1 : Ext (WTs W) hk h1 := by rw [← hh]; exact Ext.put _ _ (wd (by omega))
    clear hh
    refine S_nilk [0, 2] (by simp only [proj, lk, reduceIte, Nat.reduceEqDiff]; rfl) ?_
    refine hK6 _ _ ?_; clear hK6
    refine V_reg T.mix (by kernel_rfl) ?_
    refine S_mv rfl ?_
    first | refine S_add rfl rfl (by omega) (by omega) ?_ | refine S_bin rfl rfl rfl ?_
    refine S_as rfl ?_
    refine S_nilk [0, 2] (by simp only [proj, lk, reduceIte, Nat.reduceEqDiff]; rfl) ?_
    exact hK3 _ _ ⟨_, by omega, s_ + 1, h1, Huf.ups A s_ (fixL.getD s_ 0), by omega, swn, fun j hj => by by_cases e : j = s_; (rw [e, Huf.ups_eq]); (rw [Huf.ups_ne _ _ e]; exact hA j (by omega)), hEk.trans hEh1, rfl, rfl, rfl⟩
  · skip
    refine V_exitk [0] rfl (by simp only [proj, lk, reduceIte, Nat.reduceEqDiff]; rfl) ?_
    refine hK1 _ _ ?_; clear hK1
    refine V_sr T.mix (by kernel_rfl) (fun K7 hK7 => ?_)
    refine S_as rfl ?_
    refine S_nil (hK7 _ _ (V_keep [0, 3] (by simp only [proj, lk, reduceIte, Nat.reduceEqDiff]; rfl) ?_)); clear hK7
    refine V_block ?_
    refine V_loop (fun m l h' => ∃ (c : Nat) (hk : Heap) (A : Nat → Nat), (c ≤ 8) ∧ (SW hk W { r with ls := A } s ua ub) ∧ (∀ j, j < 265 + c → A j = fixL.getD j 0) ∧ (Ext (WTs W) h hk) ∧ m = 8 - c ∧ l = [(0, .pointer (some ⟨W.D, 0, none⟩)), (3, .int .i64 (c : Int))] ∧ hk = h') _ ⟨0, hk, A, Nat.zero_le _, swk, fun j hj => hA j (by omega), hEk, rfl, rfl, rfl⟩ ?_
    rintro m l h' ⟨c, hk, A, hc, swk, hA, hEk, rfl, rfl, rfl⟩ K8 hK8
    try clear q0 q1 q2 q3 q4 q5 q6 q7 q8 q9 q10 q11 q12 q13 q14 q15 q16 q17 q18 q19 q20 dok
    obtain ⟨q0, q1, q2, q3, q4, q5, q6, q7, q8, q9, q10, q11, q12, q13, q14, q15, q16, q17, q18, q19, q20⟩ := dq (swk.x)
    have dok := dok_ (swk.x)
    try clear lok
    have lok := ia_ok swk.l
    refine V_seq (fun K9 hK9 => ?_)
    refine V_sr T.mix (by kernel_rfl) (fun K10 hK10 => ?_)
    refine S_mv rfl ?_
    refine S_bin rfl rfl rfl ?_
    refine S_nil (hK10 _ _ (V_keep [0, 3, 17] (by simp only [proj, lk, reduceIte, Nat.reduceEqDiff]; rfl) ?_)); clear hK10
    refine V_condp rfl (fun c64 => ?_) (fun c64 => ?_)
    · skip
      refine V_skipk [0, 3] (by simp only [proj, lk, reduceIte, Nat.reduceEqDiff]; rfl) ?_
      refine hK9 _ _ ?_; clear hK9
      refine V_seq (fun K11 hK11 => ?_)
      refine V_block ?_
      refine V_reg T.mix (by kernel_rfl) ?_
      refine S_mv rfl ?_
      refine S_nc rfl ?_
      first | refine S_fa0 T.f77_9 rfl ?_ | refine S_fa T.f77_9 rfl ?_
      refine S_ldK T.ag56 rfl (fun K' hK' => ?_)
      simp (disch := omega) only [q0, q1, q2, q3, q4, q5, q6, q7, q8, q9, q10, q11, q12, q13, q14, q15, q16, q17, q18, q19, q20, oP_some, Nat.add_zero]
      refine hK' _ ?_; clear hK' K'
      refine S_mv rfl ?_
      refine S_addN (265 + c) rfl rfl (by omega) (by omega) ?_
      first | refine S_ixn T.el56 rfl rfl (by omega) ?_ | refine S_ix1 T.el56 rfl rfl (by omega) (by omega) ?_ | refine S_ix T.el56 rfl rfl (by omega) (by omega) ?_
      refine S_st T.sz3 rfl rfl rfl rfl (by simp (disch := omega) only [lok]) ?_
      generalize hh : putH _ _ _ = h1
      have swn := swk.sl (h' := h1) (by rw [← hh]; exact ia_put swk.l (265 + c) (3)) (by rw [← hh]; exact Ext.put _ _ rfl)
      have hEh1 : Ext (WTs W) hk h1 := by rw [← hh]; exact Ext.put _ _ (wd (by omega))
      clear hh
      refine S_nilk [0, 3] (by simp only [proj, lk, reduceIte, Nat.reduceEqDiff]; rfl) ?_
      refine hK11 _ _ ?_; clear hK11
      refine V_reg T.mix (by kernel_rfl) ?_
      refine S_mv rfl ?_
      first | refine S_add rfl rfl (by omega) (by omega) ?_ | refine S_bin rfl rfl rfl ?_
      refine S_as rfl ?_
      refine S_nilk [0, 3] (by simp only [proj, lk, reduceIte, Nat.reduceEqDiff]; rfl) ?_
      exact hK8 _ _ ⟨_, by omega, c + 1, h1, Huf.ups A (265 + c) 3, by omega, swn, fun j hj => by by_cases e : j = 265 + c; (rw [e, Huf.ups_eq, fix_at (by omega), if_neg (by omega), if_neg (by omega)]); (rw [Huf.ups_ne _ _ e]; exact hA j (by omega)), hEk.trans hEh1, rfl, rfl, rfl⟩
    · skip
      refine V_exitk [] rfl (by simp only [proj, lk, reduceIte, Nat.reduceEqDiff]; rfl) ?_
      -- end
      refine hR _ _ (ret0 rfl ?_)
      exact ⟨rfl, ⟨A, fun j hj => hA j (by omega), swk⟩, hEk⟩
set_option maxHeartbeats 1600000 in
theorem sets_spec (h : Heap) (W : SA) (r : SR) (s : TS) (ua ub : HC) (sw : SW h W r s ua ub) :
    FC Tryz.prog 169 (#[.pointer (some ⟨W.D, 0, none⟩)] : Array Value) h fun rv h' => ∃ va vb, rv = .int .i64 ((coE (ra 273 r.ls) : Nat) : Int) ∧ SW h' W { r with at_ := r.hd, held := false, ph := if coE (ra 273 r.ls) = 0 then 5 else r.ph } s va vb ∧ (coE (ra 273 r.ls) = 0 → CK va (Huf.cf (lA (ra 273 r.ls))) ∧ va.n = 265 ∧ CK vb (Huf.cf (lB (ra 273 r.ls))) ∧ vb.n = 8) ∧ (ua.n = 265 ∧ ub.n = 8 → va.n = 265 ∧ vb.n = 8) ∧ Ext (WTs W) h h' := by
  try clear q0 q1 q2 q3 q4 q5 q6 q7 q8 q9 q10 q11 q12 q13 q14 q15 q16 q17 q18 q19 q20 dok
  obtain ⟨q0, q1, q2, q3, q4, q5, q6, q7, q8, q9, q10, q11, q12, q13, q14, q15, q16, q17, q18, q19, q20⟩ := dq (sw.x)
  have dok := dok_ (sw.x)
  have al := ia_at sw.l
  have hl : (ra 273 r.ls).length = 273 := ra_len _ _
  have hcA : cA r.ls = lA (ra 273 r.ls) := by rw [← cA_l hl]; exact Huf.list_ext (by rw [cA, cA, Huf.il_len, Huf.il_len]) (fun j hj => by rw [cA, Huf.il_len] at hj; rw [cA, cA, Huf.il_at hj, Huf.il_at hj, ra_at (by omega)])
  have hcB : cB r.ls = lB (ra 273 r.ls) := by rw [← cB_l hl]; exact Huf.list_ext (by rw [cB, cB, Huf.il_len, Huf.il_len]) (fun j hj => by rw [cB, Huf.il_len] at hj; rw [cB, cB, Huf.il_at hj, Huf.il_at hj, ra_at (by omega)])
  have h256 : (ra 273 r.ls).getD 256 0 = r.ls 256 := ra_at (by omega)
  refine FC_of [(0, .pointer (some ⟨W.D, 0, none⟩))] Tryz.func169 rfl Tryz.ntmps169 (by simp) rfl (fun R hR => ?_)
  refine V_sr T.mix (by kernel_rfl) (fun K1 hK1 => ?_)
  refine S_as rfl ?_
  refine S_nil (hK1 _ _ (V_keep [0] (by simp only [proj, lk, reduceIte, Nat.reduceEqDiff]; rfl) ?_)); clear hK1
  refine V_sr T.mix (by kernel_rfl) (fun K2 hK2 => ?_)
  refine S_mv rfl ?_
  refine S_mv rfl ?_
  refine S_nc rfl ?_
  first | refine S_fa0 T.f77_7 rfl ?_ | refine S_fa T.f77_7 rfl ?_
  refine S_ldK T.ag3 rfl (fun K' hK' => ?_)
  simp (disch := omega) only [q0, q1, q2, q3, q4, q5, q6, q7, q8, q9, q10, q11, q12, q13, q14, q15, q16, q17, q18, q19, q20, al, show (256 : Int).toNat = 256 from rfl, oP_some, Nat.add_zero]
  refine hK' _ ?_; clear hK' K'
  refine S_nc rfl ?_
  first | refine S_fa0 T.f77_6 rfl ?_ | refine S_fa T.f77_6 rfl ?_
  refine S_st T.sz3 rfl rfl rfl rfl (by simp (disch := omega) only [dok]) ?_
  generalize hh : putH _ _ _ = h1
  have sw1 := sw.sx (h' := h1) (r' := { r with at_ := r.hd }) (by rw [← hh]; exact (sw.x.put 6 _).cong (by simp [dcs])) (by rw [← hh]; exact Ext.put _ _ rfl) rfl rfl rfl
  have hEh1 : Ext (WTs W) h h1 := by rw [← hh]; exact Ext.put _ _ wd0
  clear hh
  try clear q0 q1 q2 q3 q4 q5 q6 q7 q8 q9 q10 q11 q12 q13 q14 q15 q16 q17 q18 q19 q20 dok
  obtain ⟨q0, q1, q2, q3, q4, q5, q6, q7, q8, q9, q10, q11, q12, q13, q14, q15, q16, q17, q18, q19, q20⟩ := dq (sw1.x)
  have dok := dok_ (sw1.x)
  refine S_nil (hK2 _ _ (V_keep [0] (by simp only [proj, lk, reduceIte, Nat.reduceEqDiff]; rfl) ?_)); clear hK2
  refine V_sr T.mix (by kernel_rfl) (fun K3 hK3 => ?_)
  refine S_mv rfl ?_
  refine S_nc rfl ?_
  first | refine S_fa0 T.f77_3 rfl ?_ | refine S_fa T.f77_3 rfl ?_
  refine S_st T.sz4 rfl rfl rfl rfl (by simp (disch := omega) only [dok]) ?_
  generalize hh : putH _ _ _ = h2
  have sw2 := sw1.sx (h' := h2) (r' := { { r with at_ := r.hd } with held := false }) (by rw [← hh]; exact (sw1.x.put 3 _).cong (by simp [dcs])) (by rw [← hh]; exact Ext.put _ _ rfl) rfl rfl rfl
  have hEh2 : Ext (WTs W) h1 h2 := by rw [← hh]; exact Ext.put _ _ wd0
  clear hh
  try clear q0 q1 q2 q3 q4 q5 q6 q7 q8 q9 q10 q11 q12 q13 q14 q15 q16 q17 q18 q19 q20 dok
  obtain ⟨q0, q1, q2, q3, q4, q5, q6, q7, q8, q9, q10, q11, q12, q13, q14, q15, q16, q17, q18, q19, q20⟩ := dq (sw2.x)
  have dok := dok_ (sw2.x)
  refine S_nil (hK3 _ _ (V_keep [0] (by simp only [proj, lk, reduceIte, Nat.reduceEqDiff]; rfl) ?_)); clear hK3
  refine V_sr T.mix (by kernel_rfl) (fun K4 hK4 => ?_)
  refine S_mv rfl ?_
  refine S_nc rfl ?_
  first | refine S_fa0 T.f77_1 rfl ?_ | refine S_fa T.f77_1 rfl ?_
  refine S_ldK T.ag49 rfl (fun K' hK' => ?_)
  simp (disch := omega) only [q0, q1, q2, q3, q4, q5, q6, q7, q8, q9, q10, q11, q12, q13, q14, q15, q16, q17, q18, q19, q20, al, show (256 : Int).toNat = 256 from rfl, oP_some, Nat.add_zero]
  refine hK' _ ?_; clear hK' K'
  refine S_mv rfl ?_
  refine S_nc rfl ?_
  first | refine S_fa0 T.f77_9 rfl ?_ | refine S_fa T.f77_9 rfl ?_
  refine S_ldK T.ag56 rfl (fun K' hK' => ?_)
  simp (disch := omega) only [q0, q1, q2, q3, q4, q5, q6, q7, q8, q9, q10, q11, q12, q13, q14, q15, q16, q17, q18, q19, q20, al, show (256 : Int).toNat = 256 from rfl, oP_some, Nat.add_zero]
  refine hK' _ ?_; clear hK' K'
  refine S_sl rfl rfl rfl (sliceV_hi T.el56 (by omega) (by omega)) ?_
  rw [show Int.toNat 265 = 265 from rfl]
  refine S_call T.hb131 rfl ?_
  have hbc := build_spec h2 W.XA ua sw2.ca (some ⟨W.D + 1, 0, none⟩) 273 (lA (ra 273 r.ls)) (by have h9 := OLcA sw2.l 273; rw [hcA] at h9; exact h9) (fun z e => by cases e; exact (sw.nx (o := 1) (by omega)).2.2.1)
  rw [lA_len hl] at hbc
  refine FC.mono hbc ?_
  rintro v' h3 ⟨va, hv', ca3, hno3, hyes3, hE3⟩
  obtain ⟨ea, hea⟩ : ∃ x, x = lensE (lA (ra 273 r.ls)) := ⟨_, rfl⟩
  rw [← hea] at hv' hno3 hyes3
  subst hv'
  have sw3 := sw2.sa ca3 hE3
  have hY3 : Ext (WTs W) h2 h3 := hE3.mono fun _ e => .inr (.inr (.inl e))
  try clear q0 q1 q2 q3 q4 q5 q6 q7 q8 q9 q10 q11 q12 q13 q14 q15 q16 q17 q18 q19 q20 dok
  obtain ⟨q0, q1, q2, q3, q4, q5, q6, q7, q8, q9, q10, q11, q12, q13, q14, q15, q16, q17, q18, q19, q20⟩ := dq (sw3.x)
  have dok := dok_ (sw3.x)
  refine S_as rfl ?_
  refine S_nil (hK4 _ _ (V_keep [0, 3] (by simp only [proj, lk, reduceIte, Nat.reduceEqDiff]; rfl) ?_)); clear hK4
  refine V_seq (fun K5 hK5 => ?_)
  refine V_sr T.mix (by kernel_rfl) (fun K6 hK6 => ?_)
  refine S_mv rfl ?_
  refine S_bin rfl rfl rfl ?_
  refine S_nil (hK6 _ _ (V_keep [0, 3, 25] (by simp only [proj, lk, reduceIte, Nat.reduceEqDiff]; rfl) ?_)); clear hK6
  refine V_condp rfl (fun c74 => ?_) (fun c74 => ?_)
  · skip
    refine V_sr T.mix (by kernel_rfl) (fun K7 hK7 => ?_)
    refine S_mv rfl ?_
    refine S_as rfl ?_
    refine S_nil (hK7 _ _ (V_keep [2] (by simp only [proj, lk, reduceIte, Nat.reduceEqDiff]; rfl) ?_)); clear hK7
    refine V_ret ?_
    refine hR _ _ (ret1 rfl rfl ?_)
    have hco : coE (ra 273 r.ls) = ea := by unfold coE; rw [← hea, if_pos (by omega)]
    rw [hco, if_neg (by omega)]
    have hva := hno3 (by omega)
    subst hva
    exact ⟨va, ub, rfl, sw3, fun z => by omega, fun z => z, (hEh1.trans hEh2).trans hY3⟩
  · skip
    refine V_skipk [0] (by simp only [proj, lk, reduceIte, Nat.reduceEqDiff]; rfl) ?_
    refine hK5 _ _ ?_; clear hK5
    refine V_sr T.mix (by kernel_rfl) (fun K8 hK8 => ?_)
    refine S_mv rfl ?_
    refine S_nc rfl ?_
    first | refine S_fa0 T.f77_2 rfl ?_ | refine S_fa T.f77_2 rfl ?_
    refine S_ldK T.ag49 rfl (fun K' hK' => ?_)
    simp (disch := omega) only [q0, q1, q2, q3, q4, q5, q6, q7, q8, q9, q10, q11, q12, q13, q14, q15, q16, q17, q18, q19, q20, al, show (256 : Int).toNat = 256 from rfl, oP_some, Nat.add_zero]
    refine hK' _ ?_; clear hK' K'
    refine S_mv rfl ?_
    refine S_nc rfl ?_
    first | refine S_fa0 T.f77_9 rfl ?_ | refine S_fa T.f77_9 rfl ?_
    refine S_ldK T.ag56 rfl (fun K' hK' => ?_)
    simp (disch := omega) only [q0, q1, q2, q3, q4, q5, q6, q7, q8, q9, q10, q11, q12, q13, q14, q15, q16, q17, q18, q19, q20, al, show (256 : Int).toNat = 256 from rfl, oP_some, Nat.add_zero]
    refine hK' _ ?_; clear hK' K'
    refine S_sl rfl rfl rfl (sliceV_lo (p := 265) T.el56 (by omega) (by omega) (by omega)) ?_
    simp only [Nat.zero_add, Nat.reduceMul, Nat.reduceSub]
    refine S_call T.hb131 rfl ?_
    have hbc := build_spec h3 W.XB ub sw3.cb (some ⟨W.D + 1, 265, none⟩) 8 (lB (ra 273 r.ls)) (by have h9 := OLcB sw3.l 8; rw [hcB] at h9; exact h9) (fun z e => by cases e; exact (sw.nx (o := 1) (by omega)).2.2.2)
    rw [lB_len hl] at hbc
    refine FC.mono hbc ?_
    rintro v' h4 ⟨vb, hv', cb4, hno4, hyes4, hE4⟩
    obtain ⟨eb, heb⟩ : ∃ x, x = lensE (lB (ra 273 r.ls)) := ⟨_, rfl⟩
    rw [← heb] at hv' hno4 hyes4
    subst hv'
    have sw4 := sw3.sbb cb4 hE4
    have hY4 : Ext (WTs W) h3 h4 := hE4.mono fun _ e => .inr (.inr (.inr (.inl e)))
    have hX4 : Ext (WTs W) h h4 := ((hEh1.trans hEh2).trans hY3).trans hY4
    clear al
    have al := ia_at sw4.l
    obtain ⟨kA, nA, _⟩ := hyes3 (by omega)
    try clear q0 q1 q2 q3 q4 q5 q6 q7 q8 q9 q10 q11 q12 q13 q14 q15 q16 q17 q18 q19 q20 dok
    obtain ⟨q0, q1, q2, q3, q4, q5, q6, q7, q8, q9, q10, q11, q12, q13, q14, q15, q16, q17, q18, q19, q20⟩ := dq (sw4.x)
    have dok := dok_ (sw4.x)
    refine S_as rfl ?_
    refine S_nil (hK8 _ _ (V_keep [0, 3] (by simp only [proj, lk, reduceIte, Nat.reduceEqDiff]; rfl) ?_)); clear hK8
    refine V_seq (fun K9 hK9 => ?_)
    refine V_sr T.mix (by kernel_rfl) (fun K10 hK10 => ?_)
    refine S_mv rfl ?_
    refine S_bin rfl rfl rfl ?_
    refine S_nil (hK10 _ _ (V_keep [0, 3, 38] (by simp only [proj, lk, reduceIte, Nat.reduceEqDiff]; rfl) ?_)); clear hK10
    refine V_condp rfl (fun c78 => ?_) (fun c78 => ?_)
    · skip
      refine V_sr T.mix (by kernel_rfl) (fun K11 hK11 => ?_)
      refine S_mv rfl ?_
      refine S_as rfl ?_
      refine S_nil (hK11 _ _ (V_keep [2] (by simp only [proj, lk, reduceIte, Nat.reduceEqDiff]; rfl) ?_)); clear hK11
      refine V_ret ?_
      refine hR _ _ (ret1 rfl rfl ?_)
      have hco : coE (ra 273 r.ls) = eb := by unfold coE; rw [← hea, ← heb, if_neg (by omega), if_pos (by omega)]
      rw [hco, if_neg (by omega)]
      have hvb := hno4 (by omega)
      subst hvb
      exact ⟨va, vb, rfl, sw4, fun z => by omega, fun z => ⟨nA, z.2⟩, hX4⟩
    · skip
      refine V_skipk [0] (by simp only [proj, lk, reduceIte, Nat.reduceEqDiff]; rfl) ?_
      refine hK9 _ _ ?_; clear hK9
      refine V_seq (fun K12 hK12 => ?_)
      refine V_sr T.mix (by kernel_rfl) (fun K13 hK13 => ?_)
      refine S_mv rfl ?_
      refine S_nc rfl ?_
      first | refine S_fa0 T.f77_9 rfl ?_ | refine S_fa T.f77_9 rfl ?_
      refine S_ldK T.ag56 rfl (fun K' hK' => ?_)
      simp (disch := omega) only [q0, q1, q2, q3, q4, q5, q6, q7, q8, q9, q10, q11, q12, q13, q14, q15, q16, q17, q18, q19, q20, al, show (256 : Int).toNat = 256 from rfl, oP_some, Nat.add_zero]
      refine hK' _ ?_; clear hK' K'
      first | refine S_ixn T.el56 rfl rfl (by omega) ?_ | refine S_ix1 T.el56 rfl rfl (by omega) (by omega) ?_ | refine S_ix T.el56 rfl rfl (by omega) (by omega) ?_
      refine S_ldK T.ag3 rfl (fun K' hK' => ?_)
      simp (disch := omega) only [q0, q1, q2, q3, q4, q5, q6, q7, q8, q9, q10, q11, q12, q13, q14, q15, q16, q17, q18, q19, q20, al, show (256 : Int).toNat = 256 from rfl, oP_some, Nat.add_zero]
      refine hK' _ ?_; clear hK' K'
      refine S_bin rfl rfl rfl ?_
      refine S_nil (hK13 _ _ (V_keep [0, 46] (by simp only [proj, lk, reduceIte, Nat.reduceEqDiff]; rfl) ?_)); clear hK13
      refine V_condp rfl (fun c81 => ?_) (fun c81 => ?_)
      · skip
        refine V_sr T.mix (by kernel_rfl) (fun K14 hK14 => ?_)
        refine S_as rfl ?_
        refine S_nil (hK14 _ _ (V_keep [2] (by simp only [proj, lk, reduceIte, Nat.reduceEqDiff]; rfl) ?_)); clear hK14
        refine V_ret ?_
        refine hR _ _ (ret1 rfl rfl ?_)
        have hco : coE (ra 273 r.ls) = 8 := by unfold coE; rw [← hea, ← heb, h256, if_neg (by omega), if_neg (by omega), if_pos (by omega)]
        rw [hco, if_neg (by omega)]
        obtain ⟨kB, nB, _⟩ := hyes4 (by omega)
        exact ⟨va, vb, rfl, sw4, fun z => by omega, fun z => ⟨nA, nB⟩, hX4⟩
      · skip
        refine V_skipk [0] (by simp only [proj, lk, reduceIte, Nat.reduceEqDiff]; rfl) ?_
        refine hK12 _ _ ?_; clear hK12
        refine V_sr T.mix (by kernel_rfl) (fun K15 hK15 => ?_)
        refine S_mv rfl ?_
        refine S_nc rfl ?_
        first | refine S_fa0 T.f77_4 rfl ?_ | refine S_fa T.f77_4 rfl ?_
        refine S_st T.sz3 rfl rfl rfl rfl (by simp (disch := omega) only [dok]) ?_
        generalize hh : putH _ _ _ = h5
        have sw5 := sw4.sx (h' := h5) (r' := { { { r with at_ := r.hd } with held := false } with ph := 5 }) (by rw [← hh]; exact (sw4.x.put 4 _).cong (by simp [dcs])) (by rw [← hh]; exact Ext.put _ _ rfl) rfl rfl rfl
        have hEh5 : Ext (WTs W) h4 h5 := by rw [← hh]; exact Ext.put _ _ wd0
        clear hh
        try clear q0 q1 q2 q3 q4 q5 q6 q7 q8 q9 q10 q11 q12 q13 q14 q15 q16 q17 q18 q19 q20 dok
        obtain ⟨q0, q1, q2, q3, q4, q5, q6, q7, q8, q9, q10, q11, q12, q13, q14, q15, q16, q17, q18, q19, q20⟩ := dq (sw5.x)
        have dok := dok_ (sw5.x)
        refine S_nil (hK15 _ _ (V_keep [] (by simp only [proj, lk, reduceIte, Nat.reduceEqDiff]; rfl) ?_)); clear hK15
        refine V_sr T.mix (by kernel_rfl) (fun K16 hK16 => ?_)
        refine S_as rfl ?_
        refine S_nil (hK16 _ _ (V_keep [2] (by simp only [proj, lk, reduceIte, Nat.reduceEqDiff]; rfl) ?_)); clear hK16
        refine V_ret ?_
        refine hR _ _ (ret1 rfl rfl ?_)
        have hco : coE (ra 273 r.ls) = 0 := by unfold coE; rw [← hea, ← heb, h256, if_neg (by omega), if_neg (by omega), if_neg (by omega)]
        rw [hco, if_pos rfl]
        obtain ⟨kB, nB, _⟩ := hyes4 (by omega)
        exact ⟨va, vb, rfl, sw5, fun z => ⟨kA, nA, kB, nB⟩, fun z => ⟨nA, nB⟩, hX4.trans hEh5⟩
set_option maxHeartbeats 1600000 in
theorem sreset_spec (h : Heap) (W : SA) (r : SR) (s : TS) (ua ub : HC) (sw : SW h W r s ua ub) :
    FC Tryz.prog 81 (#[.pointer (some ⟨W.D, 0, none⟩)] : Array Value) h fun rv h' => rv = .tuple #[] ∧ SW h' W (rse r) ⟨0, 0, 0⟩ ua ub ∧ Ext (WTs W) h h' := by
  try clear q0 q1 q2 q3 q4 q5 q6 q7 q8 q9 q10 q11 q12 q13 q14 q15 q16 q17 q18 q19 q20 dok
  obtain ⟨q0, q1, q2, q3, q4, q5, q6, q7, q8, q9, q10, q11, q12, q13, q14, q15, q16, q17, q18, q19, q20⟩ := dq (sw.x)
  have dok := dok_ (sw.x)
  refine FC_of [(0, .pointer (some ⟨W.D, 0, none⟩))] Tryz.func81 rfl Tryz.ntmps81 (by simp) rfl (fun R hR => ?_)
  refine V_sr T.mix (by kernel_rfl) (fun K1 hK1 => ?_)
  refine S_mv rfl ?_
  refine S_nc rfl ?_
  first | refine S_fa0 T.f77_0 rfl ?_ | refine S_fa T.f77_0 rfl ?_
  refine S_ldK T.ag47 rfl (fun K' hK' => ?_)
  simp (disch := omega) only [q0, q1, q2, q3, q4, q5, q6, q7, q8, q9, q10, q11, q12, q13, q14, q15, q16, q17, q18, q19, q20, oP_some, Nat.add_zero]
  refine hK' _ ?_; clear hK' K'
  refine S_call T.hb24 rfl ?_
  refine FC.mono (BitW.reset_spec h W.T W.tb s sw.rt) ?_
  rintro v' h0 ⟨rfl, rt0, hX0⟩
  have sw0 := sw.st rt0 hX0
  have hEh0 : Ext (WTs W) h h0 := hX0.mono fun _ e => wsT e
  try clear q0 q1 q2 q3 q4 q5 q6 q7 q8 q9 q10 q11 q12 q13 q14 q15 q16 q17 q18 q19 q20 dok
  obtain ⟨q0, q1, q2, q3, q4, q5, q6, q7, q8, q9, q10, q11, q12, q13, q14, q15, q16, q17, q18, q19, q20⟩ := dq (sw0.x)
  have dok := dok_ (sw0.x)
  refine S_nil (hK1 _ _ (V_keep [0] (by simp only [proj, lk, reduceIte, Nat.reduceEqDiff]; rfl) ?_)); clear hK1
  refine V_sr T.mix (by kernel_rfl) (fun K2 hK2 => ?_)
  refine S_mv rfl ?_
  refine S_nc rfl ?_
  first | refine S_fa0 T.f77_4 rfl ?_ | refine S_fa T.f77_4 rfl ?_
  refine S_st T.sz3 rfl rfl rfl rfl (by simp (disch := omega) only [dok]) ?_
  generalize hh : putH _ _ _ = h1
  have sw1 := sw0.sx (h' := h1) (r' := { r with ph := 0 }) (by rw [← hh]; exact (sw0.x.put 4 _).cong (by simp [dcs])) (by rw [← hh]; exact Ext.put _ _ rfl) rfl rfl rfl
  have hEh1 : Ext (WTs W) h0 h1 := by rw [← hh]; exact Ext.put _ _ wd0
  clear hh
  try clear q0 q1 q2 q3 q4 q5 q6 q7 q8 q9 q10 q11 q12 q13 q14 q15 q16 q17 q18 q19 q20 dok
  obtain ⟨q0, q1, q2, q3, q4, q5, q6, q7, q8, q9, q10, q11, q12, q13, q14, q15, q16, q17, q18, q19, q20⟩ := dq (sw1.x)
  have dok := dok_ (sw1.x)
  refine S_nil (hK2 _ _ (V_keep [0] (by simp only [proj, lk, reduceIte, Nat.reduceEqDiff]; rfl) ?_)); clear hK2
  refine V_sr T.mix (by kernel_rfl) (fun K3 hK3 => ?_)
  refine S_mv rfl ?_
  refine S_nc rfl ?_
  first | refine S_fa0 T.f77_5 rfl ?_ | refine S_fa T.f77_5 rfl ?_
  refine S_st T.sz3 rfl rfl rfl rfl (by simp (disch := omega) only [dok]) ?_
  generalize hh : putH _ _ _ = h2
  have sw2 := sw1.sx (h' := h2) (r' := { { r with ph := 0 } with fi := 0 }) (by rw [← hh]; exact (sw1.x.put 5 _).cong (by simp [dcs])) (by rw [← hh]; exact Ext.put _ _ rfl) rfl rfl rfl
  have hEh2 : Ext (WTs W) h1 h2 := by rw [← hh]; exact Ext.put _ _ wd0
  clear hh
  try clear q0 q1 q2 q3 q4 q5 q6 q7 q8 q9 q10 q11 q12 q13 q14 q15 q16 q17 q18 q19 q20 dok
  obtain ⟨q0, q1, q2, q3, q4, q5, q6, q7, q8, q9, q10, q11, q12, q13, q14, q15, q16, q17, q18, q19, q20⟩ := dq (sw2.x)
  have dok := dok_ (sw2.x)
  refine S_nil (hK3 _ _ (V_keep [0] (by simp only [proj, lk, reduceIte, Nat.reduceEqDiff]; rfl) ?_)); clear hK3
  refine V_sr T.mix (by kernel_rfl) (fun K4 hK4 => ?_)
  refine S_mv rfl ?_
  refine S_nc rfl ?_
  first | refine S_fa0 T.f77_6 rfl ?_ | refine S_fa T.f77_6 rfl ?_
  refine S_st T.sz3 rfl rfl rfl rfl (by simp (disch := omega) only [dok]) ?_
  generalize hh : putH _ _ _ = h3
  have sw3 := sw2.sx (h' := h3) (r' := { { { r with ph := 0 } with fi := 0 } with at_ := 0 }) (by rw [← hh]; exact (sw2.x.put 6 _).cong (by simp [dcs])) (by rw [← hh]; exact Ext.put _ _ rfl) rfl rfl rfl
  have hEh3 : Ext (WTs W) h2 h3 := by rw [← hh]; exact Ext.put _ _ wd0
  clear hh
  try clear q0 q1 q2 q3 q4 q5 q6 q7 q8 q9 q10 q11 q12 q13 q14 q15 q16 q17 q18 q19 q20 dok
  obtain ⟨q0, q1, q2, q3, q4, q5, q6, q7, q8, q9, q10, q11, q12, q13, q14, q15, q16, q17, q18, q19, q20⟩ := dq (sw3.x)
  have dok := dok_ (sw3.x)
  refine S_nil (hK4 _ _ (V_keep [0] (by simp only [proj, lk, reduceIte, Nat.reduceEqDiff]; rfl) ?_)); clear hK4
  refine V_sr T.mix (by kernel_rfl) (fun K5 hK5 => ?_)
  refine S_mv rfl ?_
  refine S_nc rfl ?_
  first | refine S_fa0 T.f77_7 rfl ?_ | refine S_fa T.f77_7 rfl ?_
  refine S_st T.sz3 rfl rfl rfl rfl (by simp (disch := omega) only [dok]) ?_
  generalize hh : putH _ _ _ = h4
  have sw4 := sw3.sx (h' := h4) (r' := { { { { r with ph := 0 } with fi := 0 } with at_ := 0 } with hd := 0 }) (by rw [← hh]; exact (sw3.x.put 7 _).cong (by simp [dcs])) (by rw [← hh]; exact Ext.put _ _ rfl) rfl rfl rfl
  have hEh4 : Ext (WTs W) h3 h4 := by rw [← hh]; exact Ext.put _ _ wd0
  clear hh
  try clear q0 q1 q2 q3 q4 q5 q6 q7 q8 q9 q10 q11 q12 q13 q14 q15 q16 q17 q18 q19 q20 dok
  obtain ⟨q0, q1, q2, q3, q4, q5, q6, q7, q8, q9, q10, q11, q12, q13, q14, q15, q16, q17, q18, q19, q20⟩ := dq (sw4.x)
  have dok := dok_ (sw4.x)
  refine S_nil (hK5 _ _ (V_keep [0] (by simp only [proj, lk, reduceIte, Nat.reduceEqDiff]; rfl) ?_)); clear hK5
  refine V_sr T.mix (by kernel_rfl) (fun K6 hK6 => ?_)
  refine S_mv rfl ?_
  refine S_nc rfl ?_
  first | refine S_fa0 T.f77_15 rfl ?_ | refine S_fa T.f77_15 rfl ?_
  refine S_st T.sz3 rfl rfl rfl rfl (by simp (disch := omega) only [dok]) ?_
  generalize hh : putH _ _ _ = h5
  have sw5 := sw4.sx (h' := h5) (r' := { { { { { r with ph := 0 } with fi := 0 } with at_ := 0 } with hd := 0 } with w := 0 }) (by rw [← hh]; exact (sw4.x.put 15 _).cong (by simp [dcs])) (by rw [← hh]; exact Ext.put _ _ rfl) rfl rfl rfl
  have hEh5 : Ext (WTs W) h4 h5 := by rw [← hh]; exact Ext.put _ _ wd0
  clear hh
  try clear q0 q1 q2 q3 q4 q5 q6 q7 q8 q9 q10 q11 q12 q13 q14 q15 q16 q17 q18 q19 q20 dok
  obtain ⟨q0, q1, q2, q3, q4, q5, q6, q7, q8, q9, q10, q11, q12, q13, q14, q15, q16, q17, q18, q19, q20⟩ := dq (sw5.x)
  have dok := dok_ (sw5.x)
  refine S_nil (hK6 _ _ (V_keep [0] (by simp only [proj, lk, reduceIte, Nat.reduceEqDiff]; rfl) ?_)); clear hK6
  refine V_sr T.mix (by kernel_rfl) (fun K7 hK7 => ?_)
  refine S_mv rfl ?_
  refine S_nc rfl ?_
  first | refine S_fa0 T.f77_16 rfl ?_ | refine S_fa T.f77_16 rfl ?_
  refine S_st T.sz3 rfl rfl rfl rfl (by simp (disch := omega) only [dok]) ?_
  generalize hh : putH _ _ _ = h6
  have sw6 := sw5.sx (h' := h6) (r' := { { { { { { r with ph := 0 } with fi := 0 } with at_ := 0 } with hd := 0 } with w := 0 } with fl := 0 }) (by rw [← hh]; exact (sw5.x.put 16 _).cong (by simp [dcs])) (by rw [← hh]; exact Ext.put _ _ rfl) rfl rfl rfl
  have hEh6 : Ext (WTs W) h5 h6 := by rw [← hh]; exact Ext.put _ _ wd0
  clear hh
  try clear q0 q1 q2 q3 q4 q5 q6 q7 q8 q9 q10 q11 q12 q13 q14 q15 q16 q17 q18 q19 q20 dok
  obtain ⟨q0, q1, q2, q3, q4, q5, q6, q7, q8, q9, q10, q11, q12, q13, q14, q15, q16, q17, q18, q19, q20⟩ := dq (sw6.x)
  have dok := dok_ (sw6.x)
  refine S_nil (hK7 _ _ (V_keep [0] (by simp only [proj, lk, reduceIte, Nat.reduceEqDiff]; rfl) ?_)); clear hK7
  refine V_sr T.mix (by kernel_rfl) (fun K8 hK8 => ?_)
  refine S_mv rfl ?_
  refine S_nc rfl ?_
  first | refine S_fa0 T.f77_18 rfl ?_ | refine S_fa T.f77_18 rfl ?_
  refine S_st T.sz3 rfl rfl rfl rfl (by simp (disch := omega) only [dok]) ?_
  generalize hh : putH _ _ _ = h7
  have sw7 := sw6.sx (h' := h7) (r' := { { { { { { { r with ph := 0 } with fi := 0 } with at_ := 0 } with hd := 0 } with w := 0 } with fl := 0 } with n := 0 }) (by rw [← hh]; exact (sw6.x.put 18 _).cong (by simp [dcs])) (by rw [← hh]; exact Ext.put _ _ rfl) rfl rfl rfl
  have hEh7 : Ext (WTs W) h6 h7 := by rw [← hh]; exact Ext.put _ _ wd0
  clear hh
  try clear q0 q1 q2 q3 q4 q5 q6 q7 q8 q9 q10 q11 q12 q13 q14 q15 q16 q17 q18 q19 q20 dok
  obtain ⟨q0, q1, q2, q3, q4, q5, q6, q7, q8, q9, q10, q11, q12, q13, q14, q15, q16, q17, q18, q19, q20⟩ := dq (sw7.x)
  have dok := dok_ (sw7.x)
  refine S_nil (hK8 _ _ (V_keep [0] (by simp only [proj, lk, reduceIte, Nat.reduceEqDiff]; rfl) ?_)); clear hK8
  refine V_sr T.mix (by kernel_rfl) (fun K9 hK9 => ?_)
  refine S_mv rfl ?_
  refine S_nc rfl ?_
  first | refine S_fa0 T.f77_19 rfl ?_ | refine S_fa T.f77_19 rfl ?_
  refine S_st T.sz3 rfl rfl rfl rfl (by simp (disch := omega) only [dok]) ?_
  generalize hh : putH _ _ _ = h8
  have sw8 := sw7.sx (h' := h8) (r' := { { { { { { { { r with ph := 0 } with fi := 0 } with at_ := 0 } with hd := 0 } with w := 0 } with fl := 0 } with n := 0 } with tt := 0 }) (by rw [← hh]; exact (sw7.x.put 19 _).cong (by simp [dcs])) (by rw [← hh]; exact Ext.put _ _ rfl) rfl rfl rfl
  have hEh8 : Ext (WTs W) h7 h8 := by rw [← hh]; exact Ext.put _ _ wd0
  clear hh
  try clear q0 q1 q2 q3 q4 q5 q6 q7 q8 q9 q10 q11 q12 q13 q14 q15 q16 q17 q18 q19 q20 dok
  obtain ⟨q0, q1, q2, q3, q4, q5, q6, q7, q8, q9, q10, q11, q12, q13, q14, q15, q16, q17, q18, q19, q20⟩ := dq (sw8.x)
  have dok := dok_ (sw8.x)
  refine S_nil (hK9 _ _ (V_keep [0] (by simp only [proj, lk, reduceIte, Nat.reduceEqDiff]; rfl) ?_)); clear hK9
  refine V_reg T.mix (by kernel_rfl) ?_
  refine S_mv rfl ?_
  refine S_nc rfl ?_
  first | refine S_fa0 T.f77_20 rfl ?_ | refine S_fa T.f77_20 rfl ?_
  refine S_st T.sz3 rfl rfl rfl rfl (by simp (disch := omega) only [dok]) ?_
  generalize hh : putH _ _ _ = h9
  have sw9 := sw8.sx (h' := h9) (r' := { { { { { { { { { r with ph := 0 } with fi := 0 } with at_ := 0 } with hd := 0 } with w := 0 } with fl := 0 } with n := 0 } with tt := 0 } with fed := 0 }) (by rw [← hh]; exact (sw8.x.put 20 _).cong (by simp [dcs])) (by rw [← hh]; exact Ext.put _ _ rfl) rfl rfl rfl
  have hEh9 : Ext (WTs W) h8 h9 := by rw [← hh]; exact Ext.put _ _ wd0
  clear hh
  try clear q0 q1 q2 q3 q4 q5 q6 q7 q8 q9 q10 q11 q12 q13 q14 q15 q16 q17 q18 q19 q20 dok
  obtain ⟨q0, q1, q2, q3, q4, q5, q6, q7, q8, q9, q10, q11, q12, q13, q14, q15, q16, q17, q18, q19, q20⟩ := dq (sw9.x)
  have dok := dok_ (sw9.x)
  refine S_nilk [] (by simp only [proj, lk, reduceIte, Nat.reduceEqDiff]; rfl) ?_
  -- end
  refine hR _ _ (ret0 rfl ?_)
  exact ⟨rfl, sw9, ((((((((hEh0.trans hEh1).trans hEh2).trans hEh3).trans hEh4).trans hEh5).trans hEh6).trans hEh7).trans hEh8).trans hEh9⟩
set_option maxHeartbeats 400000 in
theorem stotal_spec (h : Heap) (W : SA) (r : SR) (s : TS) (ua ub : HC) (sw : SW h W r s ua ub) :
    FC Tryz.prog 47 (#[.pointer (some ⟨W.D, 0, none⟩)] : Array Value) h fun rv h' => rv = .int .i64 (r.tt : Int) ∧ h = h' := by
  try clear q0 q1 q2 q3 q4 q5 q6 q7 q8 q9 q10 q11 q12 q13 q14 q15 q16 q17 q18 q19 q20 dok
  obtain ⟨q0, q1, q2, q3, q4, q5, q6, q7, q8, q9, q10, q11, q12, q13, q14, q15, q16, q17, q18, q19, q20⟩ := dq (sw.x)
  have dok := dok_ (sw.x)
  refine FC_of [(0, .pointer (some ⟨W.D, 0, none⟩))] Tryz.func47 rfl Tryz.ntmps47 (by simp) rfl (fun R hR => ?_)
  refine V_sr T.mix (by kernel_rfl) (fun K1 hK1 => ?_)
  refine S_as rfl ?_
  refine S_nil (hK1 _ _ (V_keep [0] (by simp only [proj, lk, reduceIte, Nat.reduceEqDiff]; rfl) ?_)); clear hK1
  refine V_sr T.mix (by kernel_rfl) (fun K2 hK2 => ?_)
  refine S_mv rfl ?_
  refine S_nc rfl ?_
  first | refine S_fa0 T.f77_19 rfl ?_ | refine S_fa T.f77_19 rfl ?_
  refine S_ldK T.ag3 rfl (fun K' hK' => ?_)
  simp (disch := omega) only [q0, q1, q2, q3, q4, q5, q6, q7, q8, q9, q10, q11, q12, q13, q14, q15, q16, q17, q18, q19, q20, oP_some, Nat.add_zero]
  refine hK' _ ?_; clear hK' K'
  refine S_as rfl ?_
  refine S_nil (hK2 _ _ (V_keep [2] (by simp only [proj, lk, reduceIte, Nat.reduceEqDiff]; rfl) ?_)); clear hK2
  refine V_ret ?_
  refine hR _ _ (ret1 rfl rfl ?_)
  exact ⟨rfl, rfl⟩
set_option maxHeartbeats 400000 in
theorem sfed_spec (h : Heap) (W : SA) (r : SR) (s : TS) (ua ub : HC) (sw : SW h W r s ua ub) :
    FC Tryz.prog 48 (#[.pointer (some ⟨W.D, 0, none⟩)] : Array Value) h fun rv h' => rv = .int .i64 (r.fed : Int) ∧ h = h' := by
  try clear q0 q1 q2 q3 q4 q5 q6 q7 q8 q9 q10 q11 q12 q13 q14 q15 q16 q17 q18 q19 q20 dok
  obtain ⟨q0, q1, q2, q3, q4, q5, q6, q7, q8, q9, q10, q11, q12, q13, q14, q15, q16, q17, q18, q19, q20⟩ := dq (sw.x)
  have dok := dok_ (sw.x)
  refine FC_of [(0, .pointer (some ⟨W.D, 0, none⟩))] Tryz.func48 rfl Tryz.ntmps48 (by simp) rfl (fun R hR => ?_)
  refine V_sr T.mix (by kernel_rfl) (fun K1 hK1 => ?_)
  refine S_as rfl ?_
  refine S_nil (hK1 _ _ (V_keep [0] (by simp only [proj, lk, reduceIte, Nat.reduceEqDiff]; rfl) ?_)); clear hK1
  refine V_sr T.mix (by kernel_rfl) (fun K2 hK2 => ?_)
  refine S_mv rfl ?_
  refine S_nc rfl ?_
  first | refine S_fa0 T.f77_20 rfl ?_ | refine S_fa T.f77_20 rfl ?_
  refine S_ldK T.ag3 rfl (fun K' hK' => ?_)
  simp (disch := omega) only [q0, q1, q2, q3, q4, q5, q6, q7, q8, q9, q10, q11, q12, q13, q14, q15, q16, q17, q18, q19, q20, oP_some, Nat.add_zero]
  refine hK' _ ?_; clear hK' K'
  refine S_as rfl ?_
  refine S_nil (hK2 _ _ (V_keep [2] (by simp only [proj, lk, reduceIte, Nat.reduceEqDiff]; rfl) ?_)); clear hK2
  refine V_ret ?_
  refine hR _ _ (ret1 rfl rfl ?_)
  exact ⟨rfl, rfl⟩
set_option maxHeartbeats 400000 in
theorem sstate_spec (h : Heap) (W : SA) (r : SR) (s : TS) (ua ub : HC) (sw : SW h W r s ua ub) :
    FC Tryz.prog 46 (#[.pointer (some ⟨W.D, 0, none⟩)] : Array Value) h fun rv h' => rv = .int .i64 ((if r.ph = 9 then 1 else if r.ph = 10 then 2 else 0 : Nat) : Int) ∧ h = h' := by
  try clear q0 q1 q2 q3 q4 q5 q6 q7 q8 q9 q10 q11 q12 q13 q14 q15 q16 q17 q18 q19 q20 dok
  obtain ⟨q0, q1, q2, q3, q4, q5, q6, q7, q8, q9, q10, q11, q12, q13, q14, q15, q16, q17, q18, q19, q20⟩ := dq (sw.x)
  have dok := dok_ (sw.x)
  refine FC_of [(0, .pointer (some ⟨W.D, 0, none⟩))] Tryz.func46 rfl Tryz.ntmps46 (by simp) rfl (fun R hR => ?_)
  refine V_sr T.mix (by kernel_rfl) (fun K1 hK1 => ?_)
  refine S_as rfl ?_
  refine S_nil (hK1 _ _ (V_keep [0] (by simp only [proj, lk, reduceIte, Nat.reduceEqDiff]; rfl) ?_)); clear hK1
  refine V_seq (fun K2 hK2 => ?_)
  refine V_sr T.mix (by kernel_rfl) (fun K3 hK3 => ?_)
  refine S_mv rfl ?_
  refine S_nc rfl ?_
  first | refine S_fa0 T.f77_4 rfl ?_ | refine S_fa T.f77_4 rfl ?_
  refine S_ldK T.ag3 rfl (fun K' hK' => ?_)
  simp (disch := omega) only [q0, q1, q2, q3, q4, q5, q6, q7, q8, q9, q10, q11, q12, q13, q14, q15, q16, q17, q18, q19, q20, oP_some, Nat.add_zero]
  refine hK' _ ?_; clear hK' K'
  refine S_bin rfl rfl rfl ?_
  refine S_nil (hK3 _ _ (V_keep [0, 7] (by simp only [proj, lk, reduceIte, Nat.reduceEqDiff]; rfl) ?_)); clear hK3
  refine V_condp rfl (fun c111 => ?_) (fun c111 => ?_)
  · skip
    refine V_sr T.mix (by kernel_rfl) (fun K4 hK4 => ?_)
    refine S_as rfl ?_
    refine S_nil (hK4 _ _ (V_keep [2] (by simp only [proj, lk, reduceIte, Nat.reduceEqDiff]; rfl) ?_)); clear hK4
    refine V_ret ?_
    refine hR _ _ (ret1 rfl rfl ?_)
    exact ⟨by rw [if_pos (by omega)]; rfl, rfl⟩
  · skip
    refine V_skipk [0] (by simp only [proj, lk, reduceIte, Nat.reduceEqDiff]; rfl) ?_
    refine hK2 _ _ ?_; clear hK2
    refine V_seq (fun K5 hK5 => ?_)
    refine V_sr T.mix (by kernel_rfl) (fun K6 hK6 => ?_)
    refine S_mv rfl ?_
    refine S_nc rfl ?_
    first | refine S_fa0 T.f77_4 rfl ?_ | refine S_fa T.f77_4 rfl ?_
    refine S_ldK T.ag3 rfl (fun K' hK' => ?_)
    simp (disch := omega) only [q0, q1, q2, q3, q4, q5, q6, q7, q8, q9, q10, q11, q12, q13, q14, q15, q16, q17, q18, q19, q20, oP_some, Nat.add_zero]
    refine hK' _ ?_; clear hK' K'
    refine S_bin rfl rfl rfl ?_
    refine S_nil (hK6 _ _ (V_keep [12] (by simp only [proj, lk, reduceIte, Nat.reduceEqDiff]; rfl) ?_)); clear hK6
    refine V_condp rfl (fun c114 => ?_) (fun c114 => ?_)
    · skip
      refine V_sr T.mix (by kernel_rfl) (fun K7 hK7 => ?_)
      refine S_as rfl ?_
      refine S_nil (hK7 _ _ (V_keep [2] (by simp only [proj, lk, reduceIte, Nat.reduceEqDiff]; rfl) ?_)); clear hK7
      refine V_ret ?_
      refine hR _ _ (ret1 rfl rfl ?_)
      exact ⟨by rw [if_neg (by omega), if_pos (by omega)]; rfl, rfl⟩
    · skip
      refine V_skipk [] (by simp only [proj, lk, reduceIte, Nat.reduceEqDiff]; rfl) ?_
      refine hK5 _ _ ?_; clear hK5
      refine V_sr T.mix (by kernel_rfl) (fun K8 hK8 => ?_)
      refine S_as rfl ?_
      refine S_nil (hK8 _ _ (V_keep [2] (by simp only [proj, lk, reduceIte, Nat.reduceEqDiff]; rfl) ?_)); clear hK8
      refine V_ret ?_
      refine hR _ _ (ret1 rfl rfl ?_)
      exact ⟨by rw [if_neg (by omega), if_neg (by omega)]; rfl, rfl⟩
end Go.Proofs.Qxb6500404aGreat
