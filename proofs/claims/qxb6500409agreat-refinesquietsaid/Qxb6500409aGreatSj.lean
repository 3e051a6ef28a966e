import Derived.Test.Qxb6500409aGreatSi
set_option linter.unusedVariables false
set_option linter.unusedSimpArgs false
namespace Go.Proofs.Qxb6500409aGreat
open Go.Eng Go.Bits Go.Blk HufW

structure LW (h : Heap) (W : SA) (M X : Nat) (r : SR) (s : TS) (ua ub : HC) (raw : ByteArray) (out : List Int) (st : Nat) (reg : ByteArray) (cur : Nat) (src : ByteArray) (got : Bool) : Prop where
  sw : SW h W r s ua ub
  q : RSt raw r out s ua ub st
  mb : B h M (mcs raw out.length st) 52
  db : B h X (dk reg cur raw (mkS out) src got) 38
  l1 : W.D + 3 < M
  l2 : M < X
  rs : reg.size ≤ 513
  cs : cur ≤ 513
  hg : got = true → ∃ lv, src.size ≤ 256 ∧ reg = pkF src lv
def LT (W : SA) (M X z : Nat) : Prop := WTs W z ∨ z = M ∨ z = X
theorem wts_lt {W : SA} (h : Ss W) {z : Nat} (e : WTs W z) : z ≤ W.D + 3 := by
  have h2 := h.l1; have h3 := h.l2; have h4 := h.l3
  rcases e with e | e | e | e | e
  · omega
  · omega
  · rw [ct_def] at e; omega
  · rw [ct_def] at e; omega
  · omega
section lw
variable {h h' : Heap} {W : SA} {M X : Nat} {r : SR} {s : TS} {ua ub : HC} {raw : ByteArray} {out : List Int} {st : Nat} {reg : ByteArray} {cur : Nat} {src : ByteArray} {got : Bool}
theorem LW.new (w : LW h W M X r s ua ub raw out st reg cur src got) (he : Ext (fun _ => False) h h') : LW h' W M X r s ua ub raw out st reg cur src got :=
  ⟨w.sw.new he, w.q, w.mb.ext he (fun f => f), w.db.ext he (fun f => f), w.l1, w.l2, w.rs, w.cs, w.hg⟩
theorem LW.desk (w : LW h W M X r s ua ub raw out st reg cur src got) {reg' : ByteArray} {cur' : Nat} {src' : ByteArray} {got' : Bool} (hb : B h' X (dk reg' cur' raw (mkS out) src' got') 38) (he : Ext (fun z => z = X) h h') (h1 : reg'.size ≤ 513) (h2 : cur' ≤ 513) (h3 : got' = true → ∃ lv, src'.size ≤ 256 ∧ reg' = pkF src' lv) : LW h' W M X r s ua ub raw out st reg' cur' src' got' := by
  have l1 := w.l1; have l2 := w.l2
  exact ⟨w.sw.ext he (fun z e y => by have h9 := wts_lt w.sw.sp e; omega), w.q, w.mb.ext he (fun e => by omega), hb, l1, l2, h1, h2, h3⟩
theorem LW.facts (w : LW h W M X r s ua ub raw out st reg cur src got) : M < h.size ∧ X < h.size ∧ (∀ z, WTs W z → z < M) ∧ raw.size ≤ 512 ∧ out.length ≤ 256 := by
  obtain ⟨n, w_⟩ := w.q.w
  exact ⟨w.mb.lt, w.db.lt, fun z e => by have h9 := wts_lt w.sw.sp e; have := w.l1; omega, w_.z, w_.si.le⟩
end lw
set_option maxHeartbeats 3200000 in
theorem samefeed_spec (h : Heap) (W : SA) (M X : Nat) (r : SR) (s : TS) (ua ub : HC) (raw : ByteArray) (out : List Int) (st : Nat) (reg : ByteArray) (cur : Nat) (src : ByteArray) (got : Bool) (w : LW h W M X r s ua ub raw out st reg cur src got) (ch : ByteArray) (lst : Bool) :
    FC Tryz.prog 29 (#[.pointer (some ⟨W.D, 0, none⟩), .pointer (some ⟨M, 0, none⟩), .pointer (some ⟨X, 0, none⟩), .string ch, .bool lst] : Array Value) h fun rv h' => ∃ r' s' va vb raw' out' st', rv = .bool true ∧ LW h' W M X r' s' va vb raw' out' st' reg cur src got ∧ Ext (LT W M X) h h' := by
  obtain ⟨fM, fX, fW, fz, fo⟩ := w.facts
  have l1 := w.l1
  have l2 := w.l2
  refine FC_of [(0, .pointer (some ⟨W.D, 0, none⟩)), (1, .pointer (some ⟨M, 0, none⟩)), (2, .pointer (some ⟨X, 0, none⟩)), (3, .string ch), (4, .bool lst)] Tryz.func29 rfl Tryz.ntmps29 (by simp) rfl (fun R hR => ?_)
  refine V_sr T.mix (by kernel_rfl) (fun K1 hK1 => ?_)
  refine S_as rfl ?_
  refine S_nil (hK1 _ _ (V_keep [0, 1, 2, 3, 4] (by simp only [proj, lk, reduceIte, Nat.reduceEqDiff]; rfl) ?_)); clear hK1
  refine V_sr T.mix (by kernel_rfl) (fun K2 hK2 => ?_)
  refine S_mv rfl ?_
  refine S_call T.hb19 rfl ?_
  refine FC.mono (mstate_spec h M raw out.length st w.mb) ?_
  rintro v' h' ⟨rfl, rfl⟩
  refine S_as rfl ?_
  refine S_nil (hK2 _ _ (V_keep [0, 1, 2, 3, 4, 11] (by simp only [proj, lk, reduceIte, Nat.reduceEqDiff]; rfl) ?_)); clear hK2
  refine V_sr T.mix (by kernel_rfl) (fun K3 hK3 => ?_)
  refine S_mv rfl ?_
  refine S_mv rfl ?_
  refine S_mv rfl ?_
  refine S_call T.hb43 rfl ?_
  refine FC.mono (feed_spec h W r s ua ub w.sw raw out st w.q ch lst) ?_
  rintro v' h1 ⟨r1, s1, va, vb, hv', sw1, q1, hx1, hpl1, hE1⟩
  rw [stp_eq] at hv'
  subst hv'
  have hs1 := hE1.1
  have hol1 : (nxO raw ch st out).length ≤ 256 := by obtain ⟨n9, w9⟩ := q1.w; exact w9.si.le
  have mb1 := w.mb.ext hE1 (fun e => by have h9 := fW _ e; omega)
  have db1 := w.db.ext hE1 (fun e => by have h9 := fW _ e; omega)
  refine S_allocA T.z72 ?_
  generalize hh : Array.push h1 _ = h2
  have bp : B h2 h1.size #[.string ⟨#[]⟩, .int .i64 0, .int .i64 0, .int .i64 0] 72 := by rw [← hh]; exact B.new _ _ _
  have hEh2 : Ext (fun _ => False) h1 h2 := by rw [← hh]; exact Ext.push _ _ _
  clear hh
  try clear hRok
  have hRok : ∀ j, j < 4 → okPut h2 ⟨h1.size, j, none⟩ = true := fun j hj => bp.ok (by simpa using hj)
  refine S_stl T.sz72 rfl rfl rfl rfl (fun j hj => by simp (disch := omega) only [hRok]) ?_
  generalize hh : putsH _ _ _ _ = h3
  have bp3 : B h3 (h1.size) #[.string (pO raw ch st out.length), .int .i64 ((pS raw ch st lst : Nat) : Int), .int .i64 ((pE raw ch st lst : Nat) : Int), .int .i64 ((pP raw ch st lst : Nat) : Int)] 72 := by rw [← hh]; exact puts_all (bp) (cs' := #[.string (pO raw ch st out.length), .int .i64 ((pS raw ch st lst : Nat) : Int), .int .i64 ((pE raw ch st lst : Nat) : Int), .int .i64 ((pP raw ch st lst : Nat) : Int)]) rfl
  have hEh3 : Ext (fun k => k = h1.size) h2 h3 := by rw [← hh]; exact Ext.puts (S := fun k => k = h1.size) rfl _ _ _
  clear hh
  refine S_nil (hK3 _ _ (V_keep [1, 2, 3, 4, 11, 12] (by simp only [proj, lk, reduceIte, Nat.reduceEqDiff]; rfl) ?_)); clear hK3
  refine V_sr T.mix (by kernel_rfl) (fun K4 hK4 => ?_)
  refine S_mv rfl ?_
  refine S_mv rfl ?_
  refine S_mv rfl ?_
  refine S_call T.hb44 rfl ?_
  have mb3 := (mb1.ext hEh2 (fun f => f)).ext hEh3 (fun e => by omega)
  have db3 := (db1.ext hEh2 (fun f => f)).ext hEh3 (fun e => by omega)
  refine FC.mono (mfeed_spec h3 M raw out.length st mb3 ch lst fz (fun z1 z2 => by subst z1; obtain ⟨x, hx⟩ := hx1; have h9 : nxO raw ch 0 out = (ruF (raw ++ ch)).out := (by unfold nxO; rw [if_pos ⟨rfl, z2⟩]); rw [← h9, hx, List.length_append]; omega)) ?_
  rintro v' h4 ⟨hv', mb4, hE4⟩
  rw [stp_eq] at hv'
  subst hv'
  have hs3 := hEh3.1
  have hs2 := hEh2.1
  have hs4 := hE4.1
  have hz2 := bp.lt
  have bp4 := bp3.ext hE4 (fun e => by omega)
  refine S_allocA T.z72 ?_
  generalize hh : Array.push h4 _ = h5
  have by_ : B h5 h4.size #[.string ⟨#[]⟩, .int .i64 0, .int .i64 0, .int .i64 0] 72 := by rw [← hh]; exact B.new _ _ _
  have hEh5 : Ext (fun _ => False) h4 h5 := by rw [← hh]; exact Ext.push _ _ _
  clear hh
  try clear hRok
  have hRok : ∀ j, j < 4 → okPut h5 ⟨h4.size, j, none⟩ = true := fun j hj => by_.ok (by simpa using hj)
  refine S_stl T.sz72 rfl rfl rfl rfl (fun j hj => by simp (disch := omega) only [hRok]) ?_
  generalize hh : putsH _ _ _ _ = h6
  have by6 : B h6 (h4.size) #[.string (pO raw ch st out.length), .int .i64 ((pS raw ch st lst : Nat) : Int), .int .i64 ((pE raw ch st lst : Nat) : Int), .int .i64 ((pP raw ch st lst : Nat) : Int)] 72 := by rw [← hh]; exact puts_all (by_) (cs' := #[.string (pO raw ch st out.length), .int .i64 ((pS raw ch st lst : Nat) : Int), .int .i64 ((pE raw ch st lst : Nat) : Int), .int .i64 ((pP raw ch st lst : Nat) : Int)]) rfl
  have hEh6 : Ext (fun k => k = h4.size) h5 h6 := by rw [← hh]; exact Ext.puts (S := fun k => k = h4.size) rfl _ _ _
  clear hh
  try clear p0 p1 p2 p3
  have p0 : cellH h6 ⟨h1.size, 0, none⟩ = some (.string (pO raw ch st out.length)) := ((bp4.ext hEh5 (fun f => f)).ext hEh6 (fun e => by omega)).cell 0
  have p1 : cellH h6 ⟨h1.size, 1, none⟩ = some (.int .i64 ((pS raw ch st lst : Nat) : Int)) := ((bp4.ext hEh5 (fun f => f)).ext hEh6 (fun e => by omega)).cell 1
  have p2 : cellH h6 ⟨h1.size, 2, none⟩ = some (.int .i64 ((pE raw ch st lst : Nat) : Int)) := ((bp4.ext hEh5 (fun f => f)).ext hEh6 (fun e => by omega)).cell 2
  have p3 : cellH h6 ⟨h1.size, 3, none⟩ = some (.int .i64 ((pP raw ch st lst : Nat) : Int)) := ((bp4.ext hEh5 (fun f => f)).ext hEh6 (fun e => by omega)).cell 3
  try clear y0 y1 y2 y3
  have y0 : cellH h6 ⟨h4.size, 0, none⟩ = some (.string (pO raw ch st out.length)) := (by6).cell 0
  have y1 : cellH h6 ⟨h4.size, 1, none⟩ = some (.int .i64 ((pS raw ch st lst : Nat) : Int)) := (by6).cell 1
  have y2 : cellH h6 ⟨h4.size, 2, none⟩ = some (.int .i64 ((pE raw ch st lst : Nat) : Int)) := (by6).cell 2
  have y3 : cellH h6 ⟨h4.size, 3, none⟩ = some (.int .i64 ((pP raw ch st lst : Nat) : Int)) := (by6).cell 3
  refine S_nil (hK4 _ _ (V_keep [2, 3, 4, 11, 12, 13] (by simp only [proj, lk, reduceIte, Nat.reduceEqDiff]; rfl) ?_)); clear hK4
  refine V_seq (fun K5 hK5 => ?_)
  refine V_sr T.mix (by kernel_rfl) (fun K6 hK6 => ?_)
  refine S_ldnK T.ag72 rfl (fun K' hK' => ?_)
  simp (disch := omega) only [p0, p1, p2, p3, y0, y1, y2, y3, oPs_cons, oPs_nil, oP_some, Nat.reduceAdd, Nat.add_zero]
  refine hK' _ ?_; clear hK' K'
  refine S_ldnK T.ag72 rfl (fun K' hK' => ?_)
  simp (disch := omega) only [p0, p1, p2, p3, y0, y1, y2, y3, oPs_cons, oPs_nil, oP_some, Nat.reduceAdd, Nat.add_zero]
  refine hK' _ ?_; clear hK' K'
  refine S_call T.hb45 rfl ?_
  refine FC.mono (samestep_spec h6 _ _ _ _) ?_
  rintro v' h7 ⟨rfl, hE7⟩
  try clear y0 y1 y2 y3
  have y0 : cellH h7 ⟨h4.size, 0, none⟩ = some (.string (pO raw ch st out.length)) := (by6.ext hE7 (fun f => f)).cell 0
  have y1 : cellH h7 ⟨h4.size, 1, none⟩ = some (.int .i64 ((pS raw ch st lst : Nat) : Int)) := (by6.ext hE7 (fun f => f)).cell 1
  have y2 : cellH h7 ⟨h4.size, 2, none⟩ = some (.int .i64 ((pE raw ch st lst : Nat) : Int)) := (by6.ext hE7 (fun f => f)).cell 2
  have y3 : cellH h7 ⟨h4.size, 3, none⟩ = some (.int .i64 ((pP raw ch st lst : Nat) : Int)) := (by6.ext hE7 (fun f => f)).cell 3
  refine S_notb rfl ?_
  refine S_nil (hK6 _ _ (V_keep [2, 3, 4, 11, 13, 27] (by simp only [proj, lk, reduceIte, Nat.reduceEqDiff]; rfl) ?_)); clear hK6
  refine V_condb rfl (fun c101 => ?_) (fun c101 => ?_)
  · skip
    cases c101
  · skip
    refine V_skipk [2, 3, 4, 11, 13] (by simp only [proj, lk, reduceIte, Nat.reduceEqDiff]; rfl) ?_
    refine hK5 _ _ ?_; clear hK5
    refine V_sr T.mix (by kernel_rfl) (fun K7 hK7 => ?_)
    refine S_mv rfl ?_
    refine S_mv rfl ?_
    refine S_mv rfl ?_
    refine S_mv rfl ?_
    refine S_ldnK T.ag72 rfl (fun K' hK' => ?_)
    simp (disch := omega) only [p0, p1, p2, p3, y0, y1, y2, y3, oPs_cons, oPs_nil, oP_some, Nat.reduceAdd, Nat.add_zero]
    refine hK' _ ?_; clear hK' K'
    refine S_call T.hb46 rfl ?_
    have hs5 := hEh5.1
    have hs6 := hEh6.1
    have db7 := ((((db3.ext hE4 (fun e => by omega)).ext hEh5 (fun f => f)).ext hEh6 (fun e => by omega)).ext hE7 (fun f => f))
    refine FC.mono (keeps_spec h7 X reg cur raw out src got db7 st ch lst fz hx1 hol1 hpl1 w.hg) ?_
    rintro v' h8 ⟨rfl, db8, hE8⟩
    refine S_as rfl ?_
    refine S_nil (hK7 _ _ (V_keep [10] (by simp only [proj, lk, reduceIte, Nat.reduceEqDiff]; rfl) ?_)); clear hK7
    refine V_ret ?_
    refine hR _ _ (ret1 rfl rfl ?_)
    have sw3 := (sw1.new hEh2).ext hEh3 (fun z e y => by have h9 := fW z e; omega)
    have sw6 := ((sw3.ext hE4 (fun z e y => by have h9 := fW z e; omega)).new hEh5).ext hEh6 (fun z e y => by have h9 := fW z e; omega)
    have sw8 := (sw6.new hE7).ext hE8 (fun z e y => by have h9 := fW z e; omega)
    have mb8 := (((mb4.ext hEh5 (fun f => f)).ext hEh6 (fun e => by omega)).ext hE7 (fun f => f)).ext hE8 (fun e => by omega)
    rw [nxN_eq] at mb8
    refine ⟨r1, s1, va, vb, _, _, _, rfl, ⟨sw8, q1, mb8, db8, l1, l2, w.rs, w.cs, w.hg⟩, ?_⟩
    have x1 : Ext (LT W M X) h h1 := hE1.mono fun _ e => .inl e
    have x3 := (x1.step hEh2 (fun z hz f => f.elim)).step hEh3 (fun z hz e => by omega)
    have x6 := ((x3.step hE4 (fun z hz e => .inr (.inl e))).step hEh5 (fun z hz f => f.elim)).step hEh6 (fun z hz e => by omega)
    exact (x6.step hE7 (fun z hz f => f.elim)).step hE8 (fun z hz e => .inr (.inr e))
set_option maxHeartbeats 400000 in
theorem samestate_spec (h : Heap) (W : SA) (M X : Nat) (r : SR) (s : TS) (ua ub : HC) (raw : ByteArray) (out : List Int) (st : Nat) (reg : ByteArray) (cur : Nat) (src : ByteArray) (got : Bool) (w : LW h W M X r s ua ub raw out st reg cur src got) :
    FC Tryz.prog 21 (#[.pointer (some ⟨W.D, 0, none⟩), .pointer (some ⟨M, 0, none⟩)] : Array Value) h fun rv h' => rv = .bool true ∧ h = h' := by
  obtain ⟨sent, w_⟩ := w.q.w
  have hph := w.q.ph
  refine FC_of [(0, .pointer (some ⟨W.D, 0, none⟩)), (1, .pointer (some ⟨M, 0, none⟩))] Tryz.func21 rfl Tryz.ntmps21 (by simp) rfl (fun R hR => ?_)
  refine V_sr T.mix (by kernel_rfl) (fun K1 hK1 => ?_)
  refine S_as rfl ?_
  refine S_nil (hK1 _ _ (V_keep [0, 1] (by simp only [proj, lk, reduceIte, Nat.reduceEqDiff]; rfl) ?_)); clear hK1
  refine V_sr T.mix (by kernel_rfl) (fun K2 hK2 => ?_)
  refine S_mv rfl ?_
  refine S_call T.hb35 rfl ?_
  refine FC.mono (sstate_spec h W r s ua ub w.sw) ?_
  rintro v' h' ⟨rfl, rfl⟩
  refine S_as rfl ?_
  refine S_nil (hK2 _ _ (V_keep [1, 5] (by simp only [proj, lk, reduceIte, Nat.reduceEqDiff]; rfl) ?_)); clear hK2
  refine V_sr T.mix (by kernel_rfl) (fun K3 hK3 => ?_)
  refine S_mv rfl ?_
  refine S_call T.hb19 rfl ?_
  refine FC.mono (mstate_spec h M raw out.length st w.mb) ?_
  rintro v' h' ⟨rfl, rfl⟩
  refine S_as rfl ?_
  refine S_nil (hK3 _ _ (V_keep [5, 6] (by simp only [proj, lk, reduceIte, Nat.reduceEqDiff]; rfl) ?_)); clear hK3
  refine V_sr T.mix (by kernel_rfl) (fun K4 hK4 => ?_)
  refine S_mv rfl ?_
  refine S_mv rfl ?_
  refine S_bin rfl rfl rfl ?_
  refine S_as rfl ?_
  refine S_nil (hK4 _ _ (V_keep [4] (by simp only [proj, lk, reduceIte, Nat.reduceEqDiff]; rfl) ?_)); clear hK4
  refine V_ret ?_
  refine hR _ _ (ret1 rfl rfl ?_)
  have he : (if r.ph = 9 then 1 else if r.ph = 10 then 2 else 0 : Nat) = st := by split; (omega); (split <;> omega)
  rw [he]
  exact ⟨by simp, rfl⟩
set_option maxHeartbeats 400000 in
theorem sametotal_spec (h : Heap) (W : SA) (M X : Nat) (r : SR) (s : TS) (ua ub : HC) (raw : ByteArray) (out : List Int) (st : Nat) (reg : ByteArray) (cur : Nat) (src : ByteArray) (got : Bool) (w : LW h W M X r s ua ub raw out st reg cur src got) :
    FC Tryz.prog 22 (#[.pointer (some ⟨W.D, 0, none⟩), .pointer (some ⟨M, 0, none⟩)] : Array Value) h fun rv h' => rv = .bool true ∧ h = h' := by
  obtain ⟨sent, w_⟩ := w.q.w
  have hph := w.q.ph
  refine FC_of [(0, .pointer (some ⟨W.D, 0, none⟩)), (1, .pointer (some ⟨M, 0, none⟩))] Tryz.func22 rfl Tryz.ntmps22 (by simp) rfl (fun R hR => ?_)
  refine V_sr T.mix (by kernel_rfl) (fun K1 hK1 => ?_)
  refine S_as rfl ?_
  refine S_nil (hK1 _ _ (V_keep [0, 1] (by simp only [proj, lk, reduceIte, Nat.reduceEqDiff]; rfl) ?_)); clear hK1
  refine V_sr T.mix (by kernel_rfl) (fun K2 hK2 => ?_)
  refine S_mv rfl ?_
  refine S_call T.hb36 rfl ?_
  refine FC.mono (stotal_spec h W r s ua ub w.sw) ?_
  rintro v' h' ⟨rfl, rfl⟩
  refine S_as rfl ?_
  refine S_nil (hK2 _ _ (V_keep [1, 5] (by simp only [proj, lk, reduceIte, Nat.reduceEqDiff]; rfl) ?_)); clear hK2
  refine V_sr T.mix (by kernel_rfl) (fun K3 hK3 => ?_)
  refine S_mv rfl ?_
  refine S_call T.hb33 rfl ?_
  refine FC.mono (mtotal_spec h M raw out.length st w.mb) ?_
  rintro v' h' ⟨rfl, rfl⟩
  refine S_as rfl ?_
  refine S_nil (hK3 _ _ (V_keep [5, 6] (by simp only [proj, lk, reduceIte, Nat.reduceEqDiff]; rfl) ?_)); clear hK3
  refine V_sr T.mix (by kernel_rfl) (fun K4 hK4 => ?_)
  refine S_mv rfl ?_
  refine S_mv rfl ?_
  refine S_bin rfl rfl rfl ?_
  refine S_as rfl ?_
  refine S_nil (hK4 _ _ (V_keep [4] (by simp only [proj, lk, reduceIte, Nat.reduceEqDiff]; rfl) ?_)); clear hK4
  refine V_ret ?_
  refine hR _ _ (ret1 rfl rfl ?_)
  rw [w_.si.tt]
  exact ⟨by simp, rfl⟩
set_option maxHeartbeats 400000 in
theorem samefed_spec (h : Heap) (W : SA) (M X : Nat) (r : SR) (s : TS) (ua ub : HC) (raw : ByteArray) (out : List Int) (st : Nat) (reg : ByteArray) (cur : Nat) (src : ByteArray) (got : Bool) (w : LW h W M X r s ua ub raw out st reg cur src got) :
    FC Tryz.prog 23 (#[.pointer (some ⟨W.D, 0, none⟩), .pointer (some ⟨M, 0, none⟩)] : Array Value) h fun rv h' => rv = .bool true ∧ h = h' := by
  obtain ⟨sent, w_⟩ := w.q.w
  have hph := w.q.ph
  refine FC_of [(0, .pointer (some ⟨W.D, 0, none⟩)), (1, .pointer (some ⟨M, 0, none⟩))] Tryz.func23 rfl Tryz.ntmps23 (by simp) rfl (fun R hR => ?_)
  refine V_sr T.mix (by kernel_rfl) (fun K1 hK1 => ?_)
  refine S_as rfl ?_
  refine S_nil (hK1 _ _ (V_keep [0, 1] (by simp only [proj, lk, reduceIte, Nat.reduceEqDiff]; rfl) ?_)); clear hK1
  refine V_sr T.mix (by kernel_rfl) (fun K2 hK2 => ?_)
  refine S_mv rfl ?_
  refine S_call T.hb37 rfl ?_
  refine FC.mono (sfed_spec h W r s ua ub w.sw) ?_
  rintro v' h' ⟨rfl, rfl⟩
  refine S_as rfl ?_
  refine S_nil (hK2 _ _ (V_keep [1, 5] (by simp only [proj, lk, reduceIte, Nat.reduceEqDiff]; rfl) ?_)); clear hK2
  refine V_sr T.mix (by kernel_rfl) (fun K3 hK3 => ?_)
  refine S_mv rfl ?_
  refine S_call T.hb32 rfl ?_
  refine FC.mono (mfed_spec h M raw out.length st w.mb) ?_
  rintro v' h' ⟨rfl, rfl⟩
  refine S_as rfl ?_
  refine S_nil (hK3 _ _ (V_keep [5, 6] (by simp only [proj, lk, reduceIte, Nat.reduceEqDiff]; rfl) ?_)); clear hK3
  refine V_sr T.mix (by kernel_rfl) (fun K4 hK4 => ?_)
  refine S_mv rfl ?_
  refine S_mv rfl ?_
  refine S_bin rfl rfl rfl ?_
  refine S_as rfl ?_
  refine S_nil (hK4 _ _ (V_keep [4] (by simp only [proj, lk, reduceIte, Nat.reduceEqDiff]; rfl) ?_)); clear hK4
  refine V_ret ?_
  refine hR _ _ (ret1 rfl rfl ?_)
  rw [w_.fed]
  exact ⟨by simp, rfl⟩
set_option maxHeartbeats 400000 in
theorem alike_spec (h : Heap) (W : SA) (M X : Nat) (r : SR) (s : TS) (ua ub : HC) (raw : ByteArray) (out : List Int) (st : Nat) (reg : ByteArray) (cur : Nat) (src : ByteArray) (got : Bool) (w : LW h W M X r s ua ub raw out st reg cur src got) :
    FC Tryz.prog 11 (#[.pointer (some ⟨W.D, 0, none⟩), .pointer (some ⟨M, 0, none⟩)] : Array Value) h fun rv h' => rv = .bool true ∧ h = h' := by
  refine FC_of [(0, .pointer (some ⟨W.D, 0, none⟩)), (1, .pointer (some ⟨M, 0, none⟩))] Tryz.func11 rfl Tryz.ntmps11 (by simp) rfl (fun R hR => ?_)
  refine V_sr T.mix (by kernel_rfl) (fun K1 hK1 => ?_)
  refine S_as rfl ?_
  refine S_nil (hK1 _ _ (V_keep [0, 1] (by simp only [proj, lk, reduceIte, Nat.reduceEqDiff]; rfl) ?_)); clear hK1
  refine V_seq (fun K2 hK2 => ?_)
  refine V_sr T.mix (by kernel_rfl) (fun K3 hK3 => ?_)
  refine S_mv rfl ?_
  refine S_mv rfl ?_
  refine S_call T.hb21 rfl ?_
  refine FC.mono (samestate_spec h W M X r s ua ub raw out st reg cur src got w) ?_
  rintro v' h' ⟨rfl, rfl⟩
  refine S_notb rfl ?_
  refine S_nil (hK3 _ _ (V_keep [0, 1, 8] (by simp only [proj, lk, reduceIte, Nat.reduceEqDiff]; rfl) ?_)); clear hK3
  refine V_condb rfl (fun c128 => ?_) (fun c128 => ?_)
  · skip
    cases c128
  · skip
    refine V_skipk [0, 1] (by simp only [proj, lk, reduceIte, Nat.reduceEqDiff]; rfl) ?_
    refine hK2 _ _ ?_; clear hK2
    refine V_seq (fun K4 hK4 => ?_)
    refine V_sr T.mix (by kernel_rfl) (fun K5 hK5 => ?_)
    refine S_mv rfl ?_
    refine S_mv rfl ?_
    refine S_call T.hb22 rfl ?_
    refine FC.mono (sametotal_spec h W M X r s ua ub raw out st reg cur src got w) ?_
    rintro v' h' ⟨rfl, rfl⟩
    refine S_notb rfl ?_
    refine S_nil (hK5 _ _ (V_keep [0, 1, 12] (by simp only [proj, lk, reduceIte, Nat.reduceEqDiff]; rfl) ?_)); clear hK5
    refine V_condb rfl (fun c131 => ?_) (fun c131 => ?_)
    · skip
      cases c131
    · skip
      refine V_skipk [0, 1] (by simp only [proj, lk, reduceIte, Nat.reduceEqDiff]; rfl) ?_
      refine hK4 _ _ ?_; clear hK4
      refine V_seq (fun K6 hK6 => ?_)
      refine V_sr T.mix (by kernel_rfl) (fun K7 hK7 => ?_)
      refine S_mv rfl ?_
      refine S_mv rfl ?_
      refine S_call T.hb23 rfl ?_
      refine FC.mono (samefed_spec h W M X r s ua ub raw out st reg cur src got w) ?_
      rintro v' h' ⟨rfl, rfl⟩
      refine S_notb rfl ?_
      refine S_nil (hK7 _ _ (V_keep [0, 16] (by simp only [proj, lk, reduceIte, Nat.reduceEqDiff]; rfl) ?_)); clear hK7
      refine V_condb rfl (fun c134 => ?_) (fun c134 => ?_)
      · skip
        cases c134
      · skip
        refine V_skipk [0] (by simp only [proj, lk, reduceIte, Nat.reduceEqDiff]; rfl) ?_
        refine hK6 _ _ ?_; clear hK6
        refine V_sr T.mix (by kernel_rfl) (fun K8 hK8 => ?_)
        refine S_mv rfl ?_
        refine S_call T.hb24 rfl ?_
        refine FC.mono (scheck_spec h W r s ua ub w.sw raw out st w.q) ?_
        rintro v' h' ⟨rfl, rfl⟩
        refine S_as rfl ?_
        refine S_nil (hK8 _ _ (V_keep [4] (by simp only [proj, lk, reduceIte, Nat.reduceEqDiff]; rfl) ?_)); clear hK8
        refine V_ret ?_
        refine hR _ _ (ret1 rfl rfl ?_)
        exact ⟨rfl, rfl⟩
set_option maxHeartbeats 400000 in
theorem ghosts_spec (h : Heap) (W : SA) (M X : Nat) (r : SR) (s : TS) (ua ub : HC) (raw : ByteArray) (out : List Int) (st : Nat) (reg : ByteArray) (cur : Nat) (src : ByteArray) (got : Bool) (w : LW h W M X r s ua ub raw out st reg cur src got) :
    FC Tryz.prog 13 (#[.pointer (some ⟨M, 0, none⟩), .pointer (some ⟨X, 0, none⟩)] : Array Value) h fun rv h' => rv = .bool true ∧ h = h' := by
  try clear v0 v1 v2 v3 v4 v5 vok
  obtain ⟨v0, v1, v2, v3, v4, v5, vok⟩ := dkq (w.db)
  have hms := mkS_size out
  refine FC_of [(0, .pointer (some ⟨M, 0, none⟩)), (1, .pointer (some ⟨X, 0, none⟩))] Tryz.func13 rfl Tryz.ntmps13 (by simp) rfl (fun R hR => ?_)
  refine V_sr T.mix (by kernel_rfl) (fun K1 hK1 => ?_)
  refine S_as rfl ?_
  refine S_nil (hK1 _ _ (V_keep [0, 1] (by simp only [proj, lk, reduceIte, Nat.reduceEqDiff]; rfl) ?_)); clear hK1
  refine V_sr T.mix (by kernel_rfl) (fun K2 hK2 => ?_)
  refine S_mv rfl ?_
  refine S_call T.hb32 rfl ?_
  refine FC.mono (mfed_spec h M raw out.length st w.mb) ?_
  rintro v' h' ⟨rfl, rfl⟩
  refine S_as rfl ?_
  refine S_nil (hK2 _ _ (V_keep [0, 1, 5] (by simp only [proj, lk, reduceIte, Nat.reduceEqDiff]; rfl) ?_)); clear hK2
  refine V_sr T.mix (by kernel_rfl) (fun K3 hK3 => ?_)
  refine S_mv rfl ?_
  refine S_call T.hb33 rfl ?_
  refine FC.mono (mtotal_spec h M raw out.length st w.mb) ?_
  rintro v' h' ⟨rfl, rfl⟩
  refine S_as rfl ?_
  refine S_nil (hK3 _ _ (V_keep [1, 5, 6] (by simp only [proj, lk, reduceIte, Nat.reduceEqDiff]; rfl) ?_)); clear hK3
  refine V_sr T.mix (by kernel_rfl) (fun K4 hK4 => ?_)
  refine S_mv rfl ?_
  refine S_mv rfl ?_
  refine S_nc rfl ?_
  first | refine S_fa0 T.f38_2 rfl ?_ | refine S_fa T.f38_2 rfl ?_
  refine S_ldK T.ag9 rfl (fun K' hK' => ?_)
  simp (disch := omega) only [v0, v1, v2, v3, v4, v5, oP_some, Nat.add_zero]
  refine hK' _ ?_; clear hK' K'
  refine S_lens T.kd9 rfl ?_
  refine S_bin rfl rfl rfl ?_
  refine S_mv rfl ?_
  refine S_dec (fun g144 => ?_) (fun g144 => ?_)
  · skip
    refine S_gt rfl ?_
    refine S_mv rfl ?_
    refine S_gt rfl ?_
    refine S_mv rfl ?_
    refine S_gt rfl ?_
    refine S_nc rfl ?_
    refine S_gt rfl ?_
    first | refine S_fa0 T.f38_3 rfl ?_ | refine S_fa T.f38_3 rfl ?_
    refine S_gt rfl ?_
    refine S_ldK T.ag9 rfl (fun K' hK' => ?_)
    simp (disch := omega) only [v0, v1, v2, v3, v4, v5, oP_some, Nat.add_zero]
    refine hK' _ ?_; clear hK' K'
    refine S_gt rfl ?_
    refine S_lens T.kd9 rfl ?_
    refine S_gt rfl ?_
    refine S_bin rfl rfl rfl ?_
    refine S_pt rfl rfl ?_
    refine S_as rfl ?_
    refine S_nil (hK4 _ _ (V_keep [4] (by simp only [proj, lk, reduceIte, Nat.reduceEqDiff]; rfl) ?_)); clear hK4
    refine V_ret ?_
    refine hR _ _ (ret1 rfl rfl ?_)
    exact ⟨by rw [decide_eq_true (by omega)], rfl⟩
  · skip
    exact absurd rfl g144
set_option maxHeartbeats 1600000 in
theorem handed_spec (h : Heap) (W : SA) (M X : Nat) (r : SR) (s : TS) (ua ub : HC) (raw : ByteArray) (out : List Int) (st : Nat) (reg : ByteArray) (cur : Nat) (src : ByteArray) (got : Bool) (w : LW h W M X r s ua ub raw out st reg cur src got) :
    FC Tryz.prog 10 (#[.agg #[.pointer (some ⟨W.T, 0, none⟩), .pointer (some ⟨W.XA, 0, none⟩), .pointer (some ⟨W.XB, 0, none⟩)], .pointer (some ⟨M, 0, none⟩), .pointer (some ⟨X, 0, none⟩)] : Array Value) h fun rv h' => rv = .bool true ∧ Ext (fun _ => False) h h' := by
  obtain ⟨sent, w_⟩ := w.q.w
  have hms := mkS_size out
  have hz_ := w_.z
  have hn_ := w_.n
  refine FC_of [(0, .agg #[.pointer (some ⟨W.T, 0, none⟩), .pointer (some ⟨W.XA, 0, none⟩), .pointer (some ⟨W.XB, 0, none⟩)]), (1, .pointer (some ⟨M, 0, none⟩)), (2, .pointer (some ⟨X, 0, none⟩))] Tryz.func10 rfl Tryz.ntmps10 (by simp) rfl (fun R hR => ?_)
  refine V_sr T.mix (by kernel_rfl) (fun K1 hK1 => ?_)
  refine S_boxA rfl ?_
  generalize hh : Array.push h _ = h1
  have bb : B h1 h.size #[.pointer (some ⟨W.T, 0, none⟩), .pointer (some ⟨W.XA, 0, none⟩), .pointer (some ⟨W.XB, 0, none⟩)] 30 := by rw [← hh]; exact B.new _ _ _
  have hEh1 : Ext (fun _ => False) h h1 := by rw [← hh]; exact Ext.push _ _ _
  clear hh
  have k0 : cellH h1 ⟨h.size, 0, none⟩ = some (.pointer (some ⟨W.T, 0, none⟩)) := bb.cell 0
  have k1 : cellH h1 ⟨h.size, 1, none⟩ = some (.pointer (some ⟨W.XA, 0, none⟩)) := bb.cell 1
  have k2 : cellH h1 ⟨h.size, 2, none⟩ = some (.pointer (some ⟨W.XB, 0, none⟩)) := bb.cell 2
  have w1 := w.new hEh1
  try clear v0 v1 v2 v3 v4 v5 vok
  obtain ⟨v0, v1, v2, v3, v4, v5, vok⟩ := dkq (w1.db)
  refine S_as rfl ?_
  refine S_nil (hK1 _ _ (V_keep [1, 2, 3] (by simp only [proj, lk, reduceIte, Nat.reduceEqDiff]; rfl) ?_)); clear hK1
  refine V_sr T.mix (by kernel_rfl) (fun K2 hK2 => ?_)
  first | refine S_fa0 T.f30_0 rfl ?_ | refine S_fa T.f30_0 rfl ?_
  refine S_ldK T.ag27 rfl (fun K' hK' => ?_)
  simp (disch := omega) only [v0, v1, v2, v3, v4, v5, k0, k1, k2, oP_some, Nat.add_zero]
  refine hK' _ ?_; clear hK' K'
  refine S_call T.hb17 rfl ?_
  refine FC.mono (BitW.len_spec h1 W.T W.tb s w1.sw.rt) ?_
  rintro v' h' ⟨rfl, rfl⟩
  refine S_as rfl ?_
  refine S_nil (hK2 _ _ (V_keep [1, 2, 3, 7] (by simp only [proj, lk, reduceIte, Nat.reduceEqDiff]; rfl) ?_)); clear hK2
  refine V_seq (fun K3 hK3 => ?_)
  refine V_sr T.mix (by kernel_rfl) (fun K4 hK4 => ?_)
  refine S_mv rfl ?_
  refine S_mv rfl ?_
  refine S_nc rfl ?_
  first | refine S_fa0 T.f38_2 rfl ?_ | refine S_fa T.f38_2 rfl ?_
  refine S_ldK T.ag9 rfl (fun K' hK' => ?_)
  simp (disch := omega) only [v0, v1, v2, v3, v4, v5, k0, k1, k2, oP_some, Nat.add_zero]
  refine hK' _ ?_; clear hK' K'
  refine S_lens T.kd9 rfl ?_
  refine S_mul rfl rfl (by omega) (by omega) ?_
  refine S_bin rfl rfl rfl ?_
  refine S_nil (hK4 _ _ (V_keep [1, 2, 3, 22] (by simp only [proj, lk, reduceIte, Nat.reduceEqDiff]; rfl) ?_)); clear hK4
  refine V_condp rfl (fun c151 => ?_) (fun c151 => ?_)
  · skip
    exfalso; omega
  · skip
    refine V_skipk [1, 2, 3] (by simp only [proj, lk, reduceIte, Nat.reduceEqDiff]; rfl) ?_
    refine hK3 _ _ ?_; clear hK3
    refine V_sr T.mix (by kernel_rfl) (fun K5 hK5 => ?_)
    first | refine S_fa0 T.f30_0 rfl ?_ | refine S_fa T.f30_0 rfl ?_
    refine S_ldK T.ag27 rfl (fun K' hK' => ?_)
    simp (disch := omega) only [v0, v1, v2, v3, v4, v5, k0, k1, k2, oP_some, Nat.add_zero]
    refine hK' _ ?_; clear hK' K'
    refine S_call T.hb18 rfl ?_
    refine FC.mono (BitW.text_spec h1 W.T W.tb s w1.sw.rt) ?_
    rw [w_.N, w_.n, numS_txt]
    rintro v' h' ⟨rfl, rfl⟩
    refine S_as rfl ?_
    refine S_nil (hK5 _ _ (V_keep [1, 2, 3, 8] (by simp only [proj, lk, reduceIte, Nat.reduceEqDiff]; rfl) ?_)); clear hK5
    refine V_seq (fun K6 hK6 => ?_)
    refine V_sr T.mix (by kernel_rfl) (fun K7 hK7 => ?_)
    refine S_mv rfl ?_
    refine S_mv rfl ?_
    refine S_nc rfl ?_
    first | refine S_fa0 T.f38_2 rfl ?_ | refine S_fa T.f38_2 rfl ?_
    refine S_ldK T.ag9 rfl (fun K' hK' => ?_)
    simp (disch := omega) only [v0, v1, v2, v3, v4, v5, k0, k1, k2, oP_some, Nat.add_zero]
    refine hK' _ ?_; clear hK' K'
    refine S_bin rfl rfl rfl ?_
    refine S_nil (hK7 _ _ (V_keep [1, 2, 3, 31] (by simp only [proj, lk, reduceIte, Nat.reduceEqDiff]; rfl) ?_)); clear hK7
    refine V_condp rfl (fun c155 => ?_) (fun c155 => ?_)
    · skip
      exact absurd rfl c155
    · skip
      refine V_skipk [1, 2, 3] (by simp only [proj, lk, reduceIte, Nat.reduceEqDiff]; rfl) ?_
      refine hK6 _ _ ?_; clear hK6
      refine V_sr T.mix (by kernel_rfl) (fun K8 hK8 => ?_)
      refine S_mv rfl ?_
      refine S_call T.hb19 rfl ?_
      refine FC.mono (mstate_spec h1 M raw out.length st w1.mb) ?_
      rintro v' h' ⟨rfl, rfl⟩
      refine S_as rfl ?_
      refine S_nil (hK8 _ _ (V_keep [2, 3, 9] (by simp only [proj, lk, reduceIte, Nat.reduceEqDiff]; rfl) ?_)); clear hK8
      refine V_seqJ (fun l h' => (out.length ≠ 0 ∨ st = 1) ∧ (0 < raw.size) ∧ l = [(2, .pointer (some ⟨X, 0, none⟩)), (3, .pointer (some ⟨h.size, 0, none⟩))] ∧ h1 = h') ?_ ?_
      · skip
        refine V_sr T.mix (by kernel_rfl) (fun K10 hK10 => ?_)
        refine S_mv rfl ?_
        refine S_nc rfl ?_
        first | refine S_fa0 T.f38_2 rfl ?_ | refine S_fa T.f38_2 rfl ?_
        refine S_ldK T.ag9 rfl (fun K' hK' => ?_)
        simp (disch := omega) only [v0, v1, v2, v3, v4, v5, k0, k1, k2, oP_some, Nat.add_zero]
        refine hK' _ ?_; clear hK' K'
        refine S_lens T.kd9 rfl ?_
        refine S_bin rfl rfl rfl ?_
        refine S_mv rfl ?_
        refine S_dec (fun g159 => ?_) (fun g159 => ?_)
        · skip
          refine S_gf rfl ?_
          refine S_gf rfl ?_
          refine S_gf rfl ?_
          refine S_gf rfl ?_
          refine S_gf rfl ?_
          refine S_gf rfl ?_
          refine S_gf rfl ?_
          refine S_gf rfl ?_
          refine S_gf rfl ?_
          refine S_gf rfl ?_
          refine S_pt rfl rfl ?_
          refine S_nil (hK10 _ _ (V_keep [2, 3, 51] (by simp only [proj, lk, reduceIte, Nat.reduceEqDiff]; rfl) ?_)); clear hK10
          refine V_condt rfl ?_
          refine V_sr T.mix (by kernel_rfl) (fun K11 hK11 => ?_)
          refine S_as rfl ?_
          refine S_nil (hK11 _ _ (V_keep [6] (by simp only [proj, lk, reduceIte, Nat.reduceEqDiff]; rfl) ?_)); clear hK11
          refine V_ret ?_
          refine hR _ _ (ret1 rfl rfl ?_)
          first
            | (refine ⟨by rw [decide_eq_true (by omega)], hEh1⟩)
            | (exact ⟨rfl, hEh1⟩)
        · skip
          refine S_gt rfl ?_
          refine S_mv rfl ?_
          refine S_gt rfl ?_
          refine S_nc rfl ?_
          refine S_gt rfl ?_
          first | refine S_fa0 T.f38_3 rfl ?_ | refine S_fa T.f38_3 rfl ?_
          refine S_gt rfl ?_
          refine S_ldK T.ag9 rfl (fun K' hK' => ?_)
          simp (disch := omega) only [v0, v1, v2, v3, v4, v5, k0, k1, k2, oP_some, Nat.add_zero]
          refine hK' _ ?_; clear hK' K'
          refine S_gt rfl ?_
          refine S_lens T.kd9 rfl ?_
          refine S_gt rfl ?_
          refine S_bin rfl rfl rfl ?_
          refine S_gt rfl ?_
          refine S_mv rfl ?_
          refine S_dec (fun g159a => ?_) (fun g159a => ?_)
          · skip
            refine S_gt rfl ?_
            refine S_mv rfl ?_
            refine S_gt rfl ?_
            refine S_bin rfl rfl rfl ?_
            refine S_gt rfl ?_
            refine S_pt rfl rfl ?_
            refine S_pf rfl rfl ?_
            refine S_nil (hK10 _ _ (V_keep [2, 3, 51] (by simp only [proj, lk, reduceIte, Nat.reduceEqDiff]; rfl) ?_)); clear hK10
            refine V_condp rfl (fun c159 => ?_) (fun c159 => ?_)
            · skip
              refine V_sr T.mix (by kernel_rfl) (fun K12 hK12 => ?_)
              refine S_as rfl ?_
              refine S_nil (hK12 _ _ (V_keep [6] (by simp only [proj, lk, reduceIte, Nat.reduceEqDiff]; rfl) ?_)); clear hK12
              refine V_ret ?_
              refine hR _ _ (ret1 rfl rfl ?_)
              first
                | (refine ⟨by rw [decide_eq_true (by omega)], hEh1⟩)
                | (exact ⟨rfl, hEh1⟩)
            · skip
              refine V_skipk [2, 3] (by simp only [proj, lk, reduceIte, Nat.reduceEqDiff]; rfl) ?_
              exact ⟨by omega, by omega, rfl, rfl⟩
          · skip
            refine S_gf rfl ?_
            refine S_gf rfl ?_
            refine S_gt rfl ?_
            refine S_pf rfl rfl ?_
            refine S_pf rfl rfl ?_
            refine S_nil (hK10 _ _ (V_keep [2, 3, 51] (by simp only [proj, lk, reduceIte, Nat.reduceEqDiff]; rfl) ?_)); clear hK10
            refine V_condf rfl ?_
            refine V_skipk [2, 3] (by simp only [proj, lk, reduceIte, Nat.reduceEqDiff]; rfl) ?_
            exact ⟨by omega, by omega, rfl, rfl⟩
      rintro l h' ⟨hor, hrp, rfl, rfl⟩
      refine V_seq (fun K13 hK13 => ?_)
      refine V_sr T.mix (by kernel_rfl) (fun K14 hK14 => ?_)
      refine S_mv rfl ?_
      refine S_nc rfl ?_
      first | refine S_fa0 T.f38_2 rfl ?_ | refine S_fa T.f38_2 rfl ?_
      refine S_ldK T.ag9 rfl (fun K' hK' => ?_)
      simp (disch := omega) only [v0, v1, v2, v3, v4, v5, k0, k1, k2, oP_some, Nat.add_zero]
      refine hK' _ ?_; clear hK' K'
      refine S_si T.kd9 rfl rfl (by omega) (by omega) ?_
      rw [show (0 : Int).toNat = 0 from rfl]
      have hb0 := bAt_lt raw 0
      obtain ⟨b0, hb0_⟩ : ∃ x, x = bAt raw 0 := ⟨_, rfl⟩
      rw [← hb0_] at hb0 ⊢
      first | refine S_cvi T.us5 T.in3 rfl (by omega) (by omega) ?_ | refine S_cv T.us5 T.in3 rfl ?_
      refine S_nshr b0 1 (b0 / 2) rfl rfl rfl rfl (by omega) (by decide) ?_
      refine S_nand (b0 / 2) 3 (b0 / 2 % 4) rfl rfl rfl rfl (by rw [show (3 : Nat) = 2 ^ 2 - 1 from rfl, Nat.and_two_pow_sub_one_eq_mod]) (BitW.top_i64 (by omega)) (BitW.top_i64 (by decide)) ?_
      refine S_bin rfl rfl rfl ?_
      refine S_nil (hK14 _ _ (V_keep [3, 60] (by simp only [proj, lk, reduceIte, Nat.reduceEqDiff]; rfl) ?_)); clear hK14
      refine V_condp rfl (fun c162 => ?_) (fun c162 => ?_)
      · skip
        refine V_sr T.mix (by kernel_rfl) (fun K15 hK15 => ?_)
        refine S_as rfl ?_
        refine S_nil (hK15 _ _ (V_keep [6] (by simp only [proj, lk, reduceIte, Nat.reduceEqDiff]; rfl) ?_)); clear hK15
        refine V_ret ?_
        refine hR _ _ (ret1 rfl rfl ?_)
        first
          | (refine ⟨by rw [decide_eq_true (by omega)], hEh1⟩)
          | (exact ⟨rfl, hEh1⟩)
      · skip
        have hset := w.q.hand (by rcases Nat.eq_zero_or_pos out.length with z | z; (right; omega); (left; intro e; rw [e] at z; cases z)) (fun k => by have h9 := k.2; rw [← hb0_] at h9; omega)
        refine V_skipk [3] (by simp only [proj, lk, reduceIte, Nat.reduceEqDiff]; rfl) ?_
        refine hK13 _ _ ?_; clear hK13
        refine V_sr T.mix (by kernel_rfl) (fun K16 hK16 => ?_)
        first | refine S_fa0 T.f30_1 rfl ?_ | refine S_fa T.f30_1 rfl ?_
        refine S_ldK T.ag28 rfl (fun K' hK' => ?_)
        simp (disch := omega) only [v0, v1, v2, v3, v4, v5, k0, k1, k2, oP_some, Nat.add_zero]
        refine hK' _ ?_; clear hK' K'
        refine S_call T.hb20 rfl ?_
        refine FC.mono (size_spec h1 W.XA ua w1.sw.ca) ?_
        rintro v' h' ⟨rfl, rfl⟩
        refine S_as rfl ?_
        refine S_nil (hK16 _ _ (V_keep [3, 10] (by simp only [proj, lk, reduceIte, Nat.reduceEqDiff]; rfl) ?_)); clear hK16
        refine V_sr T.mix (by kernel_rfl) (fun K17 hK17 => ?_)
        first | refine S_fa0 T.f30_2 rfl ?_ | refine S_fa T.f30_2 rfl ?_
        refine S_ldK T.ag28 rfl (fun K' hK' => ?_)
        simp (disch := omega) only [v0, v1, v2, v3, v4, v5, k0, k1, k2, oP_some, Nat.add_zero]
        refine hK' _ ?_; clear hK' K'
        refine S_call T.hb20 rfl ?_
        refine FC.mono (size_spec h1 W.XB ub w1.sw.cb) ?_
        rintro v' h' ⟨rfl, rfl⟩
        refine S_as rfl ?_
        refine S_nil (hK17 _ _ (V_keep [10, 11] (by simp only [proj, lk, reduceIte, Nat.reduceEqDiff]; rfl) ?_)); clear hK17
        refine V_sr T.mix (by kernel_rfl) (fun K18 hK18 => ?_)
        refine S_mv rfl ?_
        refine S_bin rfl rfl rfl ?_
        refine S_mv rfl ?_
        refine S_dec (fun g167 => ?_) (fun g167 => ?_)
        · skip
          refine S_gt rfl ?_
          refine S_mv rfl ?_
          refine S_gt rfl ?_
          refine S_bin rfl rfl rfl ?_
          refine S_pt rfl rfl ?_
          refine S_as rfl ?_
          refine S_nil (hK18 _ _ (V_keep [6] (by simp only [proj, lk, reduceIte, Nat.reduceEqDiff]; rfl) ?_)); clear hK18
          refine V_ret ?_
          refine hR _ _ (ret1 rfl rfl ?_)
          first
            | (refine ⟨by rw [decide_eq_true (by omega)], hEh1⟩)
            | (exact ⟨rfl, hEh1⟩)
        · skip
          exfalso; omega
set_option maxHeartbeats 400000 in
theorem lengthen_spec (r s : ByteArray) (h : Heap) (hr : r.size ≤ 513) :
    FC Tryz.prog 25 (#[.string r, .string s, .int .i64 512] : Array Value) h fun v h' => (∃ u, v = .string u ∧ u.size ≤ 513) ∧ h = h' := by
  refine FC_of [(0, .string r), (1, .string s), (2, .int .i64 512)] Tryz.func25 rfl Tryz.ntmps25 (by simp) rfl (fun R hR => ?_)
  refine V_sr T.mix (by kernel_rfl) (fun K1 hK1 => ?_)
  refine S_as rfl ?_
  refine S_nil (hK1 _ _ (V_keep [0, 1, 2] (by simp only [proj, lk, reduceIte, Nat.reduceEqDiff]; rfl) ?_)); clear hK1
  refine V_sr T.mix (by kernel_rfl) (fun K2 hK2 => ?_)
  refine S_mv rfl ?_
  first | refine S_add rfl rfl (by omega) (by omega) ?_ | refine S_bin rfl rfl rfl ?_
  refine S_mv rfl ?_
  refine S_lens T.kd9 rfl ?_
  first | refine S_sub rfl rfl (by omega) (by omega) ?_ | refine S_bin rfl rfl rfl ?_
  refine S_as rfl ?_
  refine S_nil (hK2 _ _ (V_keep [0, 1, 7] (by simp only [proj, lk, reduceIte, Nat.reduceEqDiff]; rfl) ?_)); clear hK2
  refine V_seq (fun K3 hK3 => ?_)
  refine V_sr T.mix (by kernel_rfl) (fun K4 hK4 => ?_)
  refine S_mv rfl ?_
  refine S_bin rfl rfl rfl ?_
  refine S_nil (hK4 _ _ (V_keep [0, 1, 7, 14] (by simp only [proj, lk, reduceIte, Nat.reduceEqDiff]; rfl) ?_)); clear hK4
  refine V_condp rfl (fun c51 => ?_) (fun c51 => ?_)
  · skip
    refine V_sr T.mix (by kernel_rfl) (fun K5 hK5 => ?_)
    refine S_mv rfl ?_
    refine S_as rfl ?_
    refine S_nil (hK5 _ _ (V_keep [6] (by simp only [proj, lk, reduceIte, Nat.reduceEqDiff]; rfl) ?_)); clear hK5
    refine V_ret ?_
    refine hR _ _ (ret1 rfl rfl ?_)
    exact ⟨⟨_, rfl, by omega⟩, rfl⟩
  · skip
    refine V_skipk [0, 1, 7] (by simp only [proj, lk, reduceIte, Nat.reduceEqDiff]; rfl) ?_
    refine hK3 _ _ ?_; clear hK3
    refine V_seq (fun K6 hK6 => ?_)
    refine V_sr T.mix (by kernel_rfl) (fun K7 hK7 => ?_)
    refine S_mv rfl ?_
    refine S_lens T.kd9 rfl ?_
    refine S_mv rfl ?_
    refine S_bin rfl rfl rfl ?_
    refine S_nil (hK7 _ _ (V_keep [0, 1, 7, 19] (by simp only [proj, lk, reduceIte, Nat.reduceEqDiff]; rfl) ?_)); clear hK7
    refine V_condp rfl (fun c54 => ?_) (fun c54 => ?_)
    · skip
      refine V_reg T.mix (by kernel_rfl) ?_
      refine S_mv rfl ?_
      refine S_mv rfl ?_
      refine S_sl rfl rfl rfl (sliceV_strhi T.kd9 (by omega) (by omega)) ?_
      have hsz : (s.extract 0 (512 + 1 - (r.size : Int)).toNat).size ≤ 513 - r.size := by rw [ByteArray.size_extract]; omega
      refine S_as rfl ?_
      refine S_nilk [0, 1] (by simp only [proj, lk, reduceIte, Nat.reduceEqDiff]; rfl) ?_
      refine hK6 _ _ ?_; clear hK6
      refine V_sr T.mix (by kernel_rfl) (fun K8 hK8 => ?_)
      refine S_mv rfl ?_
      refine S_mv rfl ?_
      refine S_bin rfl rfl (strV_add (by omega)) ?_
      refine S_as rfl ?_
      refine S_nil (hK8 _ _ (V_keep [6] (by simp only [proj, lk, reduceIte, Nat.reduceEqDiff]; rfl) ?_)); clear hK8
      refine V_ret ?_
      refine hR _ _ (ret1 rfl rfl ?_)
      exact ⟨⟨_, rfl, by rw [ByteArray.size_append]; omega⟩, rfl⟩
    · skip
      refine V_skipk [0, 1] (by simp only [proj, lk, reduceIte, Nat.reduceEqDiff]; rfl) ?_
      refine hK6 _ _ ?_; clear hK6
      refine V_sr T.mix (by kernel_rfl) (fun K9 hK9 => ?_)
      refine S_mv rfl ?_
      refine S_mv rfl ?_
      refine S_bin rfl rfl (strV_add (by omega)) ?_
      refine S_as rfl ?_
      refine S_nil (hK9 _ _ (V_keep [6] (by simp only [proj, lk, reduceIte, Nat.reduceEqDiff]; rfl) ?_)); clear hK9
      refine V_ret ?_
      refine hR _ _ (ret1 rfl rfl ?_)
      exact ⟨⟨_, rfl, by rw [ByteArray.size_append]; omega⟩, rfl⟩
set_option maxHeartbeats 1600000 in
theorem turnbit_spec (h : Heap) (reg : ByteArray) (i : Int) (hr : reg.size ≤ 513) :
    FC Tryz.prog 27 (#[.string reg, .int .i64 i] : Array Value) h fun rv h' => (∃ t, rv = .string t ∧ t.size = reg.size) ∧ Ext (fun _ => False) h h' := by
  refine FC_of [(0, .string reg), (1, .int .i64 i)] Tryz.func27 rfl Tryz.ntmps27 (by simp) rfl (fun R hR => ?_)
  refine V_sr T.mix (by kernel_rfl) (fun K1 hK1 => ?_)
  refine S_as rfl ?_
  refine S_nil (hK1 _ _ (V_keep [0, 1] (by simp only [proj, lk, reduceIte, Nat.reduceEqDiff]; rfl) ?_)); clear hK1
  refine V_seq (fun K2 hK2 => ?_)
  refine V_sr T.mix (by kernel_rfl) (fun K3 hK3 => ?_)
  refine S_mv rfl ?_
  refine S_bin rfl rfl rfl ?_
  refine S_mv rfl ?_
  refine S_dec (fun g172 => ?_) (fun g172 => ?_)
  · skip
    refine S_gf rfl ?_
    refine S_gf rfl ?_
    refine S_gf rfl ?_
    refine S_gf rfl ?_
    refine S_gf rfl ?_
    refine S_pt rfl rfl ?_
    refine S_nil (hK3 _ _ (V_keep [0, 1, 14] (by simp only [proj, lk, reduceIte, Nat.reduceEqDiff]; rfl) ?_)); clear hK3
    refine V_condt rfl ?_
    refine V_sr T.mix (by kernel_rfl) (fun K4 hK4 => ?_)
    refine S_mv rfl ?_
    refine S_as rfl ?_
    refine S_nil (hK4 _ _ (V_keep [4] (by simp only [proj, lk, reduceIte, Nat.reduceEqDiff]; rfl) ?_)); clear hK4
    refine V_ret ?_
    refine hR _ _ (ret1 rfl rfl ?_)
    exact ⟨⟨reg, rfl, rfl⟩, Ext.refl _ _⟩
  · skip
    refine S_gt rfl ?_
    refine S_mv rfl ?_
    refine S_gt rfl ?_
    refine S_mv rfl ?_
    refine S_gt rfl ?_
    refine S_lens T.kd9 rfl ?_
    refine S_gt rfl ?_
    refine S_mul rfl rfl (by omega) (by omega) ?_
    refine S_gt rfl ?_
    refine S_bin rfl rfl rfl ?_
    refine S_pf rfl rfl ?_
    refine S_nil (hK3 _ _ (V_keep [0, 1, 14] (by simp only [proj, lk, reduceIte, Nat.reduceEqDiff]; rfl) ?_)); clear hK3
    refine V_condp rfl (fun c172 => ?_) (fun c172 => ?_)
    · skip
      refine V_sr T.mix (by kernel_rfl) (fun K5 hK5 => ?_)
      refine S_mv rfl ?_
      refine S_as rfl ?_
      refine S_nil (hK5 _ _ (V_keep [4] (by simp only [proj, lk, reduceIte, Nat.reduceEqDiff]; rfl) ?_)); clear hK5
      refine V_ret ?_
      refine hR _ _ (ret1 rfl rfl ?_)
      exact ⟨⟨reg, rfl, rfl⟩, Ext.refl _ _⟩
    · skip
      obtain ⟨k, hk⟩ : ∃ k : Nat, i = (k : Int) := ⟨i.toNat, by omega⟩
      subst hk
      refine V_skipk [0, 1] (by simp only [proj, lk, reduceIte, Nat.reduceEqDiff]; rfl) ?_
      refine hK2 _ _ ?_; clear hK2
      refine V_srBc 1 (e := 5) (by kernel_rfl) rfl (by kernel_rfl) (by kernel_rfl) (by kernel_rfl) (fun K6 hK6 => ?_)
      refine S_mv rfl ?_
      refine S_nil ?_
      refine SB_ax rfl (fun bcap bob hbob => ?_)
      have hEb : Ext (fun _ => False) h (h.push bob) := Ext.push _ _ _
      have bcell : ∀ j, j < reg.size → cellH (h.push bob) ⟨h.size, j, none⟩ = some (.int .u8 ((bAt reg j : Nat) : Int)) := fun j hj => hob_cell hbob hj
      have bok : ∀ j, j < reg.size → okPut (h.push bob) ⟨h.size, j, none⟩ = true := fun j hj => hob_ok hbob hj
      refine S_as rfl ?_
      refine S_nil (hK6 _ _ (V_keep [1, 5] (by simp only [proj, lk, reduceIte, Nat.reduceEqDiff]; rfl) ?_)); clear hK6
      refine V_sr T.mix (by kernel_rfl) (fun K7 hK7 => ?_)
      refine S_mv rfl ?_
      refine S_mv rfl ?_
      refine S_nshr k 3 (k / 8) rfl rfl rfl rfl (by rw [show (8 : Nat) = 2 ^ 3 from rfl]) (by decide) ?_
      refine S_mv rfl ?_
      refine S_mv rfl ?_
      refine S_nshr k 3 (k / 8) rfl rfl rfl rfl (by rw [show (8 : Nat) = 2 ^ 3 from rfl]) (by decide) ?_
      first | refine S_ixn T.el48 rfl rfl (by omega) ?_ | refine S_ix1 T.el48 rfl rfl (by omega) (by omega) ?_ | refine S_ix T.el48 rfl rfl (by omega) (by omega) ?_
      refine S_ldK T.ag5 rfl (fun K' hK' => ?_)
      simp (disch := omega) only [bcell, oP_some, Nat.add_zero]
      refine hK' _ ?_; clear hK' K'
      refine S_mv rfl ?_
      refine S_nand k 7 (k % 8) rfl rfl rfl rfl (by rw [show (7 : Nat) = 2 ^ 3 - 1 from rfl, Nat.and_two_pow_sub_one_eq_mod]) (BitW.top_i64 (by omega)) (BitW.top_i64 (by decide)) ?_
      refine S_cvN (k % 8) T.us3 T.in55 rfl rfl (BitW.top_u64 (by omega)) ?_
      first | refine S_bit rfl rfl rfl (by first | omega | (simp only [IntKind.bits]; omega)) ?_ | refine S_bin rfl rfl rfl ?_
      first | refine S_uxor rfl rfl rfl (by first | omega | (simp only [IntKind.bits]; omega)) (by first | omega | (simp only [IntKind.bits]; omega)) ?_ | refine S_bin rfl rfl rfl ?_
      first | refine S_ixn T.el48 rfl rfl (by omega) ?_ | refine S_ix1 T.el48 rfl rfl (by omega) (by omega) ?_ | refine S_ix T.el48 rfl rfl (by omega) (by omega) ?_
      refine S_st T.sz5 rfl rfl rfl rfl (by simp (disch := omega) only [bok]) ?_
      refine S_nil (hK7 _ _ (V_keep [5] (by simp only [proj, lk, reduceIte, Nat.reduceEqDiff]; rfl) ?_)); clear hK7
      refine V_sr T.mix (by kernel_rfl) (fun K8 hK8 => ?_)
      refine S_mv rfl ?_
      refine S_str T.kd48 T.kd9 T.in9 rfl (srcV_cells (g := fun j => if j = k / 8 then _ else ((bAt reg j : Nat) : Int)) (fun j hj => hob_put hbob _ hj)) ?_
      refine S_as rfl ?_
      refine S_nil (hK8 _ _ (V_keep [4] (by simp only [proj, lk, reduceIte, Nat.reduceEqDiff]; rfl) ?_)); clear hK8
      refine V_ret ?_
      refine hR _ _ (ret1 rfl rfl ?_)
      exact ⟨⟨_, rfl, by rw [mkS_size]; simp⟩, hEb.putn (Nat.le_refl _)⟩
set_option maxHeartbeats 1600000 in
theorem next_spec (h : Heap) (W : SA) (M X : Nat) (r : SR) (s : TS) (ua ub : HC) (raw : ByteArray) (out : List Int) (st : Nat) (reg : ByteArray) (cur : Nat) (src : ByteArray) (got : Bool) (w : LW h W M X r s ua ub raw out st reg cur src got) (n : Int) :
    FC Tryz.prog 28 (#[.pointer (some ⟨X, 0, none⟩), .int .i64 n] : Array Value) h fun rv h' => ∃ c cur', rv = .string c ∧ LW h' W M X r s ua ub raw out st reg cur' src got ∧ Ext (LT W M X) h h' := by
  try clear v0 v1 v2 v3 v4 v5 vok
  obtain ⟨v0, v1, v2, v3, v4, v5, vok⟩ := dkq (w.db)
  have hrs := w.rs
  have hcs := w.cs
  refine FC_of [(0, .pointer (some ⟨X, 0, none⟩)), (1, .int .i64 n)] Tryz.func28 rfl Tryz.ntmps28 (by simp) rfl (fun R hR => ?_)
  refine V_sr T.mix (by kernel_rfl) (fun K1 hK1 => ?_)
  refine S_as rfl ?_
  refine S_nil (hK1 _ _ (V_keep [0, 1] (by simp only [proj, lk, reduceIte, Nat.reduceEqDiff]; rfl) ?_)); clear hK1
  refine V_sr T.mix (by kernel_rfl) (fun K2 hK2 => ?_)
  refine S_mv rfl ?_
  refine S_nc rfl ?_
  first | refine S_fa0 T.f38_0 rfl ?_ | refine S_fa T.f38_0 rfl ?_
  refine S_ldK T.ag9 rfl (fun K' hK' => ?_)
  simp (disch := omega) only [v0, v1, v2, v3, v4, v5, oP_some, Nat.add_zero]
  refine hK' _ ?_; clear hK' K'
  refine S_lens T.kd9 rfl ?_
  refine S_mv rfl ?_
  refine S_nc rfl ?_
  first | refine S_fa0 T.f38_1 rfl ?_ | refine S_fa T.f38_1 rfl ?_
  refine S_ldK T.ag3 rfl (fun K' hK' => ?_)
  simp (disch := omega) only [v0, v1, v2, v3, v4, v5, oP_some, Nat.add_zero]
  refine hK' _ ?_; clear hK' K'
  refine S_sub rfl rfl (by omega) (by omega) ?_
  refine S_as rfl ?_
  refine S_nil (hK2 _ _ (V_keep [0, 1, 5] (by simp only [proj, lk, reduceIte, Nat.reduceEqDiff]; rfl) ?_)); clear hK2
  refine V_seqJ (fun l h' => ∃ (n2 : Int), (n2 ≤ (reg.size : Int) - cur) ∧ l = [(0, .pointer (some ⟨X, 0, none⟩)), (1, .int .i64 n2)] ∧ h = h') ?_ ?_
  · skip
    refine V_sr T.mix (by kernel_rfl) (fun K4 hK4 => ?_)
    refine S_mv rfl ?_
    refine S_mv rfl ?_
    refine S_bin rfl rfl rfl ?_
    refine S_nil (hK4 _ _ (V_keep [0, 1, 5, 19] (by simp only [proj, lk, reduceIte, Nat.reduceEqDiff]; rfl) ?_)); clear hK4
    refine V_condp rfl (fun c183 => ?_) (fun c183 => ?_)
    · skip
      refine V_reg T.mix (by kernel_rfl) ?_
      refine S_mv rfl ?_
      refine S_as rfl ?_
      refine S_nilk [0, 1] (by simp only [proj, lk, reduceIte, Nat.reduceEqDiff]; rfl) ?_
      exact ⟨_, by omega, rfl, rfl⟩
    · skip
      refine V_skipk [0, 1] (by simp only [proj, lk, reduceIte, Nat.reduceEqDiff]; rfl) ?_
      exact ⟨_, by omega, rfl, rfl⟩
  rintro l h' ⟨n2, hn3, rfl, rfl⟩
  refine V_seq (fun K5 hK5 => ?_)
  refine V_sr T.mix (by kernel_rfl) (fun K6 hK6 => ?_)
  refine S_mv rfl ?_
  refine S_bin rfl rfl rfl ?_
  refine S_nil (hK6 _ _ (V_keep [0, 1, 22] (by simp only [proj, lk, reduceIte, Nat.reduceEqDiff]; rfl) ?_)); clear hK6
  refine V_condp rfl (fun c186 => ?_) (fun c186 => ?_)
  · skip
    refine V_sr T.mix (by kernel_rfl) (fun K7 hK7 => ?_)
    refine S_as rfl ?_
    refine S_nil (hK7 _ _ (V_keep [4] (by simp only [proj, lk, reduceIte, Nat.reduceEqDiff]; rfl) ?_)); clear hK7
    refine V_ret ?_
    refine hR _ _ (ret1 rfl rfl ?_)
    exact ⟨_, cur, rfl, w, Ext.refl _ _⟩
  · skip
    obtain ⟨k, hk⟩ : ∃ k : Nat, n2 = (k : Int) := ⟨n2.toNat, by omega⟩
    subst hk
    refine V_skipk [0, 1] (by simp only [proj, lk, reduceIte, Nat.reduceEqDiff]; rfl) ?_
    refine hK5 _ _ ?_; clear hK5
    refine V_sr T.mix (by kernel_rfl) (fun K8 hK8 => ?_)
    refine S_mv rfl ?_
    refine S_nc rfl ?_
    first | refine S_fa0 T.f38_0 rfl ?_ | refine S_fa T.f38_0 rfl ?_
    refine S_ldK T.ag9 rfl (fun K' hK' => ?_)
    simp (disch := omega) only [v0, v1, v2, v3, v4, v5, oP_some, Nat.add_zero]
    refine hK' _ ?_; clear hK' K'
    refine S_mv rfl ?_
    refine S_nc rfl ?_
    first | refine S_fa0 T.f38_1 rfl ?_ | refine S_fa T.f38_1 rfl ?_
    refine S_ldK T.ag3 rfl (fun K' hK' => ?_)
    simp (disch := omega) only [v0, v1, v2, v3, v4, v5, oP_some, Nat.add_zero]
    refine hK' _ ?_; clear hK' K'
    refine S_mv rfl ?_
    refine S_nc rfl ?_
    first | refine S_fa0 T.f38_1 rfl ?_ | refine S_fa T.f38_1 rfl ?_
    refine S_ldK T.ag3 rfl (fun K' hK' => ?_)
    simp (disch := omega) only [v0, v1, v2, v3, v4, v5, oP_some, Nat.add_zero]
    refine hK' _ ?_; clear hK' K'
    refine S_mv rfl ?_
    refine S_addN (cur + k) rfl rfl (by omega) (by omega) ?_
    refine S_sl rfl rfl rfl (sliceV_str T.kd9 (by omega) (by omega) (by omega)) ?_
    refine S_as rfl ?_
    refine S_nil (hK8 _ _ (V_keep [0, 1, 6] (by simp only [proj, lk, reduceIte, Nat.reduceEqDiff]; rfl) ?_)); clear hK8
    refine V_sr T.mix (by kernel_rfl) (fun K9 hK9 => ?_)
    refine S_mv rfl ?_
    refine S_mv rfl ?_
    refine S_nc rfl ?_
    first | refine S_fa0 T.f38_1 rfl ?_ | refine S_fa T.f38_1 rfl ?_
    refine S_ldK T.ag3 rfl (fun K' hK' => ?_)
    simp (disch := omega) only [v0, v1, v2, v3, v4, v5, oP_some, Nat.add_zero]
    refine hK' _ ?_; clear hK' K'
    refine S_mv rfl ?_
    refine S_addN (cur + k) rfl rfl (by omega) (by omega) ?_
    refine S_nc rfl ?_
    first | refine S_fa0 T.f38_1 rfl ?_ | refine S_fa T.f38_1 rfl ?_
    refine S_st T.sz3 rfl rfl rfl rfl (by simp (disch := omega) only [vok]) ?_
    generalize hh : putH _ _ _ = h1
    have b1 : B h1 X (dk reg (cur + k) raw (mkS out) src got) 38 := by rw [← hh]; exact (w.db.put 1 _).cong (by simp [dk])
    have hEh1 : Ext (fun z => z = X) h h1 := by rw [← hh]; exact Ext.put _ _ rfl
    clear hh
    try clear v0 v1 v2 v3 v4 v5 vok
    obtain ⟨v0, v1, v2, v3, v4, v5, vok⟩ := dkq (b1)
    refine S_nil (hK9 _ _ (V_keep [6] (by simp only [proj, lk, reduceIte, Nat.reduceEqDiff]; rfl) ?_)); clear hK9
    refine V_sr T.mix (by kernel_rfl) (fun K10 hK10 => ?_)
    refine S_mv rfl ?_
    refine S_as rfl ?_
    refine S_nil (hK10 _ _ (V_keep [4] (by simp only [proj, lk, reduceIte, Nat.reduceEqDiff]; rfl) ?_)); clear hK10
    refine V_ret ?_
    refine hR _ _ (ret1 rfl rfl ?_)
    exact ⟨_, cur + k, rfl, w.desk b1 hEh1 hrs (by omega) w.hg, hEh1.mono fun _ e => .inr (.inr e)⟩
end Go.Proofs.Qxb6500409aGreat
