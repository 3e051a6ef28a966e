import Derived.Test.Qxb6500408aWf
set_option linter.unusedVariables false
set_option linter.unusedSimpArgs false
namespace Go.Proofs.Qxb6500408a
open Go.Eng Go.Lz

def noS (D : Nat) (A : MA) : Nat → Prop := fun b => b = D ∨ ES A b
/-- all that holds between two ops -/
structure DI (base : Nat) (h : Heap) (D : Nat) (A : MA) (t : DS) (st : MS) (ts : List Tok) : Prop where
  M : Mat h A st
  K : Dk h D (noS D A) t
  ri : RI st
  n256 : st.n ≤ 256
  ax : Ans h t.x ts
  am : Ans h t.m ts
  tl : ts.length ≤ 256
  nx : ∀ b, blkV t.x = some b → ¬ noS D A b ∧ Away t b
  pr : st.pr ≤ t.lid
  lo : ∀ b, noS D A b → base ≤ b
  lx : ∀ b, blkV t.x = some b → base ≤ b
  DA : ¬ ES A D
  nm : ∀ b, blkV t.m = some b → ¬ noS D A b
theorem away_new {h : Heap} {D : Nat} {no : Nat → Prop} {t : DS} (hk : Dk h D no t) {x : Nat} (hx : h.size ≤ x) : Away t x :=
  ⟨fun i hi e => by have := ((hk.old i hi).lt e).1; omega, fun e => by have := (hk.far.lt e).1; omega, fun e => by have := (hk.held.lt e).1; omega⟩
theorem di_make {base : Nat} {h H : Heap} {D : Nat} {A : MA} {t t6 : DS} {st st1 : MS} {ts L : List Tok} {a b : Option Addr × Nat} (hI : DI base h D A t st ts) (hM : Mat H A st1) (hK : Dk H D (noS D A) t6) (ri : RI st1) (n256 : st1.n ≤ 256) (hA : Ans H a L) (hB : Ans H b L) (ex : t6.x = a) (em : t6.m = b) (tl : L.length ≤ 256)
    (hla : ∀ x, blkV a = some x → h.size ≤ x) (hlb : ∀ x, blkV b = some x → h.size ≤ x) (haw : ∀ x, h.size ≤ x → Away t6 x) (pr : st1.pr ≤ t6.lid) : DI base H D A t6 st1 L := by
  have hno : ∀ x, h.size ≤ x → ¬ noS D A x := by
    intro x hx hn
    rcases hn with e | e
    · have := hI.K.s.lt; omega
    · have := hI.M.lt e; omega
  have hbase : base ≤ h.size := by have := hI.lo D (.inl rfl); have := hI.K.s.lt; omega
  refine ⟨hM, hK, ri, n256, by rw [ex]; exact hA, by rw [em]; exact hB, tl, fun x hx => ?_, pr, hI.lo, fun x hx => ?_, hI.DA, fun x hx => ?_⟩
  · rw [ex] at hx; exact ⟨hno x (hla x hx), haw x (hla x hx)⟩
  · rw [ex] at hx; have := hla x hx; omega
  · rw [em] at hx; exact hno x (hlb x hx)
def errF (s : ByteArray) (level : Int) : Int := if 256 < s.size then 1 else if level < 0 ∨ 2 < level then 13 else 0
def ansF (s : ByteArray) (level : Int) : List Tok := if errF s level = 0 then toks s level else []
def lidA (s : ByteArray) (level : Int) : Nat := if errF s level = 0 then lid0 s level else 0
theorem err_zero {s : ByteArray} {level : Int} (h : errF s level = 0) : s.size ≤ 256 ∧ 0 ≤ level ∧ level ≤ 2 := by
  unfold errF at h
  split at h
  · omega
  · split at h
    · omega
    · omega
theorem ans_len (s : ByteArray) (level : Int) : (ansF s level).length ≤ 256 := by
  unfold ansF
  split
  · rename_i h; have := toks_len s level; have := err_zero h; omega
  · simp
theorem parse_u (A : MA) (st : MS) (h : Heap) (hM : Mat h A st) (s : ByteArray) (level : Int) (hri : RI st) (hn : st.n ≤ 256) :
    FC Try.prog 19 (#[.pointer (some ⟨A.m, 0, none⟩), .string s, .int .i64 level] : Array Value) h fun v h' => ∃ st' a, v = .tuple #[.slice a.1 a.2 a.2, .int .i64 (errF s level)] ∧ Mat h' A st' ∧ Ext (ES A) h h' ∧ RI st' ∧ st'.n ≤ 256 ∧ Ans h' a (ansF s level) ∧ (∀ b, blkV a = some b → h.size ≤ b) ∧ st'.pr ≤ lidA s level := by
  refine FC.mono (parse_spec A st h hM s level hri hn) ?_
  rintro v h' ⟨st', hM', hE', hr', hn', hc⟩
  rcases hc with ⟨c1, rfl, c2⟩ | ⟨c1, c2, rfl, c3⟩ | ⟨c1, c2, c3, c4, nb, rfl, c5, c6⟩
  · have he : errF s level = 1 := by unfold errF; rw [if_pos c1]
    exact ⟨st', (none, 0), by rw [he], hM', hE', hr', hn', .inl ⟨rfl, by unfold ansF; rw [he]; rfl⟩, fun b hb => by simp [blkV, blkA] at hb, by omega⟩
  · have he : errF s level = 13 := by unfold errF; rw [if_neg (by omega), if_pos c2]
    exact ⟨st', (none, 0), by rw [he], hM', hE', hr', hn', .inl ⟨rfl, by unfold ansF; rw [he]; rfl⟩, fun b hb => by simp [blkV, blkA] at hb, by omega⟩
  · have he : errF s level = 0 := by unfold errF; rw [if_neg (by omega), if_neg (by omega)]
    have ha : ansF s level = toks s level := by unfold ansF; rw [if_pos he]
    exact ⟨st', (some ⟨nb, 0, none⟩, (toks s level).length), by rw [he], hM', hE', hr', hn', .inr ⟨nb, by rw [ha], by rw [ha]; exact c6⟩, fun b hb => by simp [blkV, blkA] at hb; omega, by unfold lidA; rw [if_pos he]; exact c4⟩
theorem mparse_u (mv : Value) (s : ByteArray) (level : Int) (h : Heap) :
    FC Try.prog 20 (#[mv, .string s, .int .i64 level] : Array Value) h fun v h' => ∃ a, v = .tuple #[.slice a.1 a.2 a.2, .int .i64 (errF s level)] ∧ Ext (fun _ => False) h h' ∧ Ans h' a (ansF s level) ∧ (errF s level = 0 → ∃ nb, a = (some ⟨nb, 0, none⟩, (toks s level).length) ∧ TokB h' nb (toks s level)) ∧ (∀ b, blkV a = some b → h.size ≤ b) := by
  refine FC.mono (mparse_spec mv s level h) ?_
  rintro v h' ⟨hE', hc⟩
  rcases hc with ⟨c1, rfl⟩ | ⟨c1, c2, rfl⟩ | ⟨c1, c2, c3, nb, rfl, c5, c6⟩
  · have he : errF s level = 1 := by unfold errF; rw [if_pos c1]
    exact ⟨(none, 0), by rw [he], hE', .inl ⟨rfl, by unfold ansF; rw [he]; rfl⟩, fun e => by omega, fun b hb => by simp [blkV, blkA] at hb⟩
  · have he : errF s level = 13 := by unfold errF; rw [if_neg (by omega), if_pos c2]
    exact ⟨(none, 0), by rw [he], hE', .inl ⟨rfl, by unfold ansF; rw [he]; rfl⟩, fun e => by omega, fun b hb => by simp [blkV, blkA] at hb⟩
  · have he : errF s level = 0 := by unfold errF; rw [if_neg (by omega), if_neg (by omega)]
    have ha : ansF s level = toks s level := by unfold ansF; rw [if_pos he]
    exact ⟨(some ⟨nb, 0, none⟩, (toks s level).length), by rw [he], hE', .inr ⟨nb, by rw [ha], by rw [ha]; exact c6⟩, fun _ => ⟨nb, rfl, c6⟩, fun b hb => by simp [blkV, blkA] at hb; omega⟩
set_option maxHeartbeats 400000 in
theorem sameparse_spec (base : Nat) (h : Heap) (D : Nat) (A : MA) (t : DS) (st : MS) (ts : List Tok) (hI : DI base h D A t st ts) (mv : Value) (level : Int) (hna : t.na ≤ 100000000000000) :
    FC Try.prog 17 (#[.pointer (some ⟨A.m, 0, none⟩), mv, .pointer (some ⟨D, 0, none⟩), .int .i64 level] : Array Value) h fun v h' => v = .bool true ∧ ∃ t' st' ts', DI base h' D A t' st' ts' ∧ t'.text = t.text ∧ t'.na ≤ t.na + 1 ∧ Ext (fun b => base ≤ b) h h' := by
  have hD := hI.K
  have hbx := hI.nx
  have hDlt := hD.s.lt
  refine FC_of [(0, .pointer (some ⟨A.m, 0, none⟩)), (1, mv), (2, .pointer (some ⟨D, 0, none⟩)), (3, .int .i64 level)] Try.func17 rfl Try.ntmps17 (by simp) rfl (fun R hR => ?_)
  refine V_sr T.mix (by kernel_rfl) (fun K1 hK1 => ?_)
  refine S_as rfl ?_
  refine S_nil (hK1 _ _ (V_keep [0, 1, 2, 3] (by simp only [proj, lk, reduceIte, Nat.reduceEqDiff]; rfl) ?_)); clear hK1
  refine V_sr T.mix (by kernel_rfl) (fun K2 hK2 => ?_)
  refine S_mv rfl ?_
  refine S_mv rfl ?_
  refine S_nc rfl ?_
  first | refine S_fa0 T.f35_0 rfl ?_ | refine S_fa T.f35_0 rfl ?_
  refine S_ldK T.ag9 rfl (fun K' hK' => ?_)
  simp (disch := omega) only [hD.c0, hD.c1, hD.c2, hD.c3, hD.co, hD.c8, hD.c9, hD.c10, hD.c11, hD.c12, oP_some, Nat.add_zero]
  refine hK' _ ?_; clear hK' K'
  refine S_mv rfl ?_
  refine S_call T.hb19 rfl ?_
  refine FC.mono (parse_u A st h hI.M t.text level hI.ri hI.n256) ?_
  rintro v h1 ⟨st1, a, rfl, hM1, hE1, hr1, hn1, hA1, hlo1, hp1⟩
  replace hD : Dk h1 D (noS D A) t := hD.ext hE1 (hD.s.ext hE1 hI.DA) (fun b e => .inl (.inr e)) (fun _ _ => rfl) rfl rfl rfl
  have hx1 := hI.ax.ext hE1 (fun b hb e => (hbx b hb).1 (.inr e))
  have hm1 := hI.am.ext hE1 (fun b hb e => hI.nm b hb (.inr e))
  refine S_mv rfl ?_
  refine S_ex rfl rfl ?_
  refine S_ex rfl rfl ?_
  refine S_as rfl ?_
  refine S_as rfl ?_
  refine S_nil (hK2 _ _ (V_keep [1, 2, 3, 9, 10] (by simp only [proj, lk, reduceIte, Nat.reduceEqDiff]; rfl) ?_)); clear hK2
  refine V_sr T.mix (by kernel_rfl) (fun K3 hK3 => ?_)
  refine S_mv rfl ?_
  refine S_mv rfl ?_
  refine S_nc rfl ?_
  first | refine S_fa0 T.f35_0 rfl ?_ | refine S_fa T.f35_0 rfl ?_
  refine S_ldK T.ag9 rfl (fun K' hK' => ?_)
  simp (disch := omega) only [hD.c0, hD.c1, hD.c2, hD.c3, hD.co, hD.c8, hD.c9, hD.c10, hD.c11, hD.c12, oP_some, Nat.add_zero]
  refine hK' _ ?_; clear hK' K'
  refine S_mv rfl ?_
  refine S_call T.hb20 rfl ?_
  refine FC.mono (mparse_u mv t.text level h1) ?_
  rintro v h2 ⟨b, rfl, hE2, hA2, hnb2, hlo2⟩
  replace hD : Dk h2 D (noS D A) t := hD.ext hE2 (hD.s.ext hE2 (fun f => f)) (fun _ f => f.elim) (fun _ _ => rfl) rfl rfl rfl
  have hx2 := hx1.ext hE2 (fun _ _ f => f)
  have hm2 := hm1.ext hE2 (fun _ _ f => f)
  have hA1b := hA1.ext hE2 (fun _ _ f => f)
  refine S_mv rfl ?_
  refine S_ex rfl rfl ?_
  refine S_ex rfl rfl ?_
  refine S_as rfl ?_
  refine S_as rfl ?_
  refine S_nil (hK3 _ _ (V_keep [2, 3, 9, 10, 11, 12] (by simp only [proj, lk, reduceIte, Nat.reduceEqDiff]; rfl) ?_)); clear hK3
  refine V_sr T.mix (by kernel_rfl) (fun K4 hK4 => ?_)
  refine S_mv rfl ?_
  refine S_nc rfl ?_
  first | refine S_fa0 T.f35_1 rfl ?_ | refine S_fa T.f35_1 rfl ?_
  refine S_st T.sz3 rfl rfl rfl rfl (by simp (disch := omega) only [hD.ok]) ?_
  generalize hh : putH _ _ _ = h3
  have hEh3 : Ext (fun b => b = D) h2 h3 := by rw [← hh]; exact Ext.put _ _ rfl
  have hSh3 : B h3 D (dcells { t with lid := 0 }) 35 := by rw [← hh]; exact hD.s.put 1 _
  clear hh
  replace hD : Dk h3 D (noS D A) { t with lid := 0 } := hD.ext hEh3 hSh3 (fun b e => .inl (by subst e; exact hD.noD)) (fun _ _ => rfl) rfl rfl rfl
  have hx3 := hx2.ext hEh3 (fun b hb e => (hbx b hb).1 (.inl e))
  have hm3 := hm2.ext hEh3 (fun b hb e => hI.nm b hb (.inl e))
  refine S_nil (hK4 _ _ (V_keep [2, 3, 9, 10, 11, 12] (by simp only [proj, lk, reduceIte, Nat.reduceEqDiff]; rfl) ?_)); clear hK4
  refine V_sr T.mix (by kernel_rfl) (fun K5 hK5 => ?_)
  refine S_mv rfl ?_
  refine S_call T.hb21 rfl ?_
  refine FC.mono (again_spec h3 D (noS D A) _ hD ts hx3 hm3 hI.tl hbx (by simp only []; omega)) ?_
  rintro v h4 ⟨rfl, t4, hD4, hE4, a1, a2, a3, a4, _, _⟩
  replace hD := hD4
  have hxl : ∀ x, blkV t.x = some x → x < h.size := fun x hx => hI.ax.lt hx
  have hE12 := hE1.1
  have hgo : ∀ x, h.size ≤ x → ¬ (x = D ∨ blkV t.x = some x) := fun x hx e => by rcases e with e | e; omega; have := hxl x e; omega
  have hA4 : Ans h4 a (ansF t.text level) := (hA1b.ext hEh3 (fun x hx e => by have := hlo1 x hx; omega)).ext hE4 (fun x hx => hgo x (hlo1 x hx))
  have hlo2b : ∀ x, blkV b = some x → h.size ≤ x := fun x hx => by have := hlo2 x hx; omega
  have hB4 : Ans h4 b (ansF t.text level) := (hA2.ext hEh3 (fun x hx e => by have := hlo2b x hx; omega)).ext hE4 (fun x hx => hgo x (hlo2b x hx))
  have hM4 : Mat h4 A st1 := ((hM1.ext hE2 (fun _ _ f => f)).ext hEh3 (fun x hx e => hI.DA (e ▸ hx))).ext hE4 (fun x hx e => by rcases e with e | e; exact hI.DA (e ▸ hx); exact (hbx x e).1 (.inr hx))
  have haw : ∀ x, h.size ≤ x → Away t4 x := fun x hx => a4 x (away_new hI.K hx) (fun e => by have := hxl x e; omega)
  have hbase : ∀ x, (x = D ∨ blkV t.x = some x) → base ≤ x := fun x e => by rcases e with e | e; exact e ▸ hI.lo D (.inl rfl); exact hI.lx x e
  have hEE : Ext (fun x => base ≤ x) h h4 := (((hE1.mono fun x e => hI.lo x (.inr e)).trans (hE2.mono fun _ f => f.elim)).trans (hEh3.mono fun x e => hbase x (.inl e))).trans (hE4.mono hbase)
  refine S_as rfl ?_
  refine S_nil (hK5 _ _ (V_keep [2, 3, 9, 10, 11, 12, 13] (by simp only [proj, lk, reduceIte, Nat.reduceEqDiff]; rfl) ?_)); clear hK5
  refine V_seq (fun K6 hK6 => ?_)
  refine V_sr T.mix (by kernel_rfl) (fun K7 hK7 => ?_)
  refine S_mv rfl ?_
  refine S_notb rfl ?_
  refine S_nil (hK7 _ _ (V_keep [2, 3, 9, 10, 11, 12, 41] (by simp only [proj, lk, reduceIte, Nat.reduceEqDiff]; rfl) ?_)); clear hK7
  refine V_condb rfl (fun c166 => ?_) (fun c166 => ?_)
  · skip
    cases c166
  · skip
    refine V_skipk [2, 3, 9, 10, 11, 12] (by simp only [proj, lk, reduceIte, Nat.reduceEqDiff]; rfl) ?_
    refine hK6 _ _ ?_; clear hK6
    refine V_seq (fun K8 hK8 => ?_)
    refine V_sr T.mix (by kernel_rfl) (fun K9 hK9 => ?_)
    refine S_mv rfl ?_
    refine S_mv rfl ?_
    refine S_bin rfl rfl rfl ?_
    refine S_mv rfl ?_
    refine S_dec (fun g169 => ?_) (fun g169 => ?_)
    · skip
      exfalso; exact g169 rfl
    · skip
      refine S_gt rfl ?_
      refine S_mv rfl ?_
      refine S_gt rfl ?_
      refine S_capl T.el32 rfl ?_
      refine S_gt rfl ?_
      refine S_mv rfl ?_
      refine S_gt rfl ?_
      refine S_lenl T.el32 rfl ?_
      refine S_gt rfl ?_
      refine S_bin rfl rfl rfl ?_
      refine S_pf rfl rfl ?_
      refine S_nil (hK9 _ _ (V_keep [2, 3, 9, 11, 12, 51] (by simp only [proj, lk, reduceIte, Nat.reduceEqDiff]; rfl) ?_)); clear hK9
      refine V_condp rfl (fun c169 => ?_) (fun c169 => ?_)
      · skip
        exfalso; exact c169 rfl
      · skip
        refine V_skipk [2, 3, 9, 11, 12] (by simp only [proj, lk, reduceIte, Nat.reduceEqDiff]; rfl) ?_
        refine hK8 _ _ ?_; clear hK8
        refine V_sr T.mix (by kernel_rfl) (fun K10 hK10 => ?_)
        refine S_mv rfl ?_
        refine S_mv rfl ?_
        refine S_call T.hb22 rfl ?_
        refine FC.mono (same_spec h4 _ a b hA4 hB4 (ans_len _ _)) ?_
        rintro v h' ⟨rfl, rfl⟩
        refine S_as rfl ?_
        refine S_nil (hK10 _ _ (V_keep [2, 3, 9, 11, 12, 14] (by simp only [proj, lk, reduceIte, Nat.reduceEqDiff]; rfl) ?_)); clear hK10
        refine V_seq (fun K11 hK11 => ?_)
        refine V_sr T.mix (by kernel_rfl) (fun K12 hK12 => ?_)
        refine S_mv rfl ?_
        refine S_notb rfl ?_
        refine S_nil (hK12 _ _ (V_keep [2, 3, 9, 11, 12, 56] (by simp only [proj, lk, reduceIte, Nat.reduceEqDiff]; rfl) ?_)); clear hK12
        refine V_condb rfl (fun c173 => ?_) (fun c173 => ?_)
        · skip
          cases c173
        · skip
          refine V_skipk [2, 3, 9, 11, 12] (by simp only [proj, lk, reduceIte, Nat.reduceEqDiff]; rfl) ?_
          refine hK11 _ _ ?_; clear hK11
          refine V_sr T.mix (by kernel_rfl) (fun K13 hK13 => ?_)
          refine S_mv rfl ?_
          refine S_mv rfl ?_
          refine S_nc rfl ?_
          first | refine S_fa0 T.f35_2 rfl ?_ | refine S_fa T.f35_2 rfl ?_
          refine S_st T.sz32 rfl rfl rfl rfl (by simp (disch := omega) only [hD.ok]) ?_
          generalize hh : putH _ _ _ = h5
          have hEh5 : Ext (fun b => b = D) h4 h5 := by rw [← hh]; exact Ext.put _ _ rfl
          have hSh5 : B h5 D (dcells { t4 with x := a }) 35 := by rw [← hh]; exact hD.s.put 2 _
          clear hh
          replace hD : Dk h5 D (noS D A) { t4 with x := a } := hD.ext hEh5 hSh5 (fun b e => .inl (by subst e; exact hD.noD)) (fun _ _ => rfl) rfl rfl rfl
          refine S_nil (hK13 _ _ (V_keep [2, 3, 11, 12] (by simp only [proj, lk, reduceIte, Nat.reduceEqDiff]; rfl) ?_)); clear hK13
          refine V_sr T.mix (by kernel_rfl) (fun K14 hK14 => ?_)
          refine S_mv rfl ?_
          refine S_mv rfl ?_
          refine S_nc rfl ?_
          first | refine S_fa0 T.f35_3 rfl ?_ | refine S_fa T.f35_3 rfl ?_
          refine S_st T.sz32 rfl rfl rfl rfl (by simp (disch := omega) only [hD.ok]) ?_
          generalize hh : putH _ _ _ = h6
          have hEh6 : Ext (fun b => b = D) h5 h6 := by rw [← hh]; exact Ext.put _ _ rfl
          have hSh6 : B h6 D (dcells { t4 with x := a, m := b }) 35 := by rw [← hh]; exact hD.s.put 3 _
          clear hh
          replace hD : Dk h6 D (noS D A) { t4 with x := a, m := b } := hD.ext hEh6 hSh6 (fun b e => .inl (by subst e; exact hD.noD)) (fun _ _ => rfl) rfl rfl rfl
          have hA6 : Ans h6 a (ansF t.text level) := (hA4.ext hEh5 (fun x hx e => by have := hlo1 x hx; omega)).ext hEh6 (fun x hx e => by have := hlo1 x hx; omega)
          have hB6 : Ans h6 b (ansF t.text level) := (hB4.ext hEh5 (fun x hx e => by have := hlo2b x hx; omega)).ext hEh6 (fun x hx e => by have := hlo2b x hx; omega)
          have hM6 : Mat h6 A st1 := (hM4.ext hEh5 (fun x hx e => hI.DA (e ▸ hx))).ext hEh6 (fun x hx e => hI.DA (e ▸ hx))
          have hEE6 := (hEE.trans (hEh5.mono fun x e => hbase x (.inl e))).trans (hEh6.mono fun x e => hbase x (.inl e))
          refine S_nil (hK14 _ _ (V_keep [2, 3, 11, 12] (by simp only [proj, lk, reduceIte, Nat.reduceEqDiff]; rfl) ?_)); clear hK14
          refine V_seq (fun K15 hK15 => ?_)
          refine V_sr T.mix (by kernel_rfl) (fun K16 hK16 => ?_)
          refine S_mv rfl ?_
          refine S_bin rfl rfl rfl ?_
          refine S_nil (hK16 _ _ (V_keep [2, 3, 11, 66] (by simp only [proj, lk, reduceIte, Nat.reduceEqDiff]; rfl) ?_)); clear hK16
          refine V_condp rfl (fun c178 => ?_) (fun c178 => ?_)
          · skip
            refine V_sr T.mix (by kernel_rfl) (fun K17 hK17 => ?_)
            refine S_as rfl ?_
            refine S_nil (hK17 _ _ (V_keep [8] (by simp only [proj, lk, reduceIte, Nat.reduceEqDiff]; rfl) ?_)); clear hK17
            refine V_ret ?_
            refine hR _ _ (ret1 rfl rfl ?_)
            have hl0 : lidA t.text level = 0 := by unfold lidA; rw [if_neg c178]
            exact ⟨rfl, _, st1, _, di_make hI hM6 hD hr1 hn1 hA6 hB6 rfl rfl (ans_len _ _) hlo1 hlo2b haw (by omega), a1, a3, hEE6⟩
          · skip
            have he0 : errF t.text level = 0 := by omega
            have hez := err_zero he0
            obtain ⟨nb, rfl, hT2⟩ := hnb2 he0
            have hnbl := hlo2b nb rfl
            have hT6 : TokB h6 nb (toks t.text level) := B.ext (B.ext (B.ext (B.ext hT2 hEh3 (fun e : nb = D => by omega)) hE4 (hgo nb hnbl)) hEh5 (fun e : nb = D => by omega)) hEh6 (fun e : nb = D => by omega)
            refine V_skipk [2, 3, 11] (by simp only [proj, lk, reduceIte, Nat.reduceEqDiff]; rfl) ?_
            refine hK15 _ _ ?_; clear hK15
            refine V_sr T.mix (by kernel_rfl) (fun K18 hK18 => ?_)
            refine S_mv rfl ?_
            refine S_mv rfl ?_
            refine S_mv rfl ?_
            refine S_mv rfl ?_
            refine S_nc rfl ?_
            first | refine S_fa0 T.f35_0 rfl ?_ | refine S_fa T.f35_0 rfl ?_
            refine S_ldK T.ag9 rfl (fun K' hK' => ?_)
            simp (disch := omega) only [hD.c0, hD.c1, hD.c2, hD.c3, hD.co, hD.c8, hD.c9, hD.c10, hD.c11, hD.c12, oP_some, Nat.add_zero]
            refine hK' _ ?_; clear hK' K'
            refine S_call T.hb23 rfl ?_
            rw [a1]
            refine FC.mono (lid_spec t.text level nb h6 (by omega) hT6) ?_
            rintro v h' ⟨rfl, rfl⟩
            refine S_nc rfl ?_
            first | refine S_fa0 T.f35_1 rfl ?_ | refine S_fa T.f35_1 rfl ?_
            refine S_st T.sz3 rfl rfl rfl rfl (by simp (disch := omega) only [hD.ok]) ?_
            generalize hh : putH _ _ _ = h7
            have hEh7 : Ext (fun b => b = D) h6 h7 := by rw [← hh]; exact Ext.put _ _ rfl
            have hSh7 : B h7 D (dcells { t4 with x := a, m := (some ⟨nb, 0, none⟩, (toks t.text level).length), lid := lid0 t.text level }) 35 := by rw [← hh]; exact hD.s.put 1 _
            clear hh
            replace hD : Dk h7 D (noS D A) { t4 with x := a, m := (some ⟨nb, 0, none⟩, (toks t.text level).length), lid := lid0 t.text level } := hD.ext hEh7 hSh7 (fun b e => .inl (by subst e; exact hD.noD)) (fun _ _ => rfl) rfl rfl rfl
            have hT7 : TokB h7 nb (toks t.text level) := B.ext hT6 hEh7 (fun e : nb = D => by omega)
            refine S_nil (hK18 _ _ (V_keep [2, 3, 11] (by simp only [proj, lk, reduceIte, Nat.reduceEqDiff]; rfl) ?_)); clear hK18
            refine V_sr T.mix (by kernel_rfl) (fun K19 hK19 => ?_)
            refine S_mv rfl ?_
            refine S_nc rfl ?_
            first | refine S_fa0 T.f35_0 rfl ?_ | refine S_fa T.f35_0 rfl ?_
            refine S_ldK T.ag9 rfl (fun K' hK' => ?_)
            simp (disch := omega) only [hD.c0, hD.c1, hD.c2, hD.c3, hD.co, hD.c8, hD.c9, hD.c10, hD.c11, hD.c12, oP_some, Nat.add_zero]
            refine hK' _ ?_; clear hK' K'
            refine S_mv rfl ?_
            refine S_mv rfl ?_
            refine S_call T.hb24 rfl ?_
            rw [a1]
            refine FC.mono (keeps_spec t.text level nb h7 (by omega) hT7) ?_
            rintro v h8 ⟨rfl, hE8⟩
            refine S_as rfl ?_
            refine S_nil (hK19 _ _ (V_keep [8] (by simp only [proj, lk, reduceIte, Nat.reduceEqDiff]; rfl) ?_)); clear hK19
            refine V_ret ?_
            refine hR _ _ (ret1 rfl rfl ?_)
            have hl0 : lidA t.text level = lid0 t.text level := by unfold lidA; rw [if_pos he0]
            have hM8 : Mat h8 A st1 := (hM6.ext hEh7 (fun x hx e => hI.DA (e ▸ hx))).ext hE8 (fun _ _ f => f)
            have hD8 := hD.ext (t' := { t4 with x := a, m := (some ⟨nb, 0, none⟩, (toks t.text level).length), lid := lid0 t.text level }) hE8 (hD.s.ext hE8 (fun f => f)) (fun _ f => f.elim) (fun _ _ => rfl) rfl rfl rfl
            have hA8 := (hA6.ext hEh7 (fun x hx e => by have := hlo1 x hx; omega)).ext hE8 (fun _ _ f => f)
            have hB8 := (hB6.ext hEh7 (fun x hx e => by have := hlo2b x hx; omega)).ext hE8 (fun _ _ f => f)
            exact ⟨rfl, _, st1, _, di_make hI hM8 hD8 hr1 hn1 hA8 hB8 rfl rfl (ans_len _ _) hlo1 hlo2b haw (by simp only []; omega), a1, a3, (hEE6.trans (hEh7.mono fun x e => hbase x (.inl e))).trans (hE8.mono fun _ f => f.elim)⟩
end Go.Proofs.Qxb6500408a
