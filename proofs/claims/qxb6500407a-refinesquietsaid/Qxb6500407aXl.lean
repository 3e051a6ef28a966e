import Derived.Test.Qxb6500407aXk
set_option linter.unusedVariables false
set_option linter.unusedSimpArgs false
namespace Go.Proofs.Qxb6500407a
open Go.Eng Go.Huf

theorem drop_cons (l : List Int) (i : Nat) (h : i < l.length) : l.drop i = l.getD i 0 :: l.drop (i + 1) := by
  rw [List.drop_eq_getElem_cons h]; simp [h]
theorem stamp_set (xs : List Int) {i : Nat} (h : i < xs.length) : (List.replicate i (-5151515 : Int) ++ xs.drop i).set i (-5151515) = List.replicate (i + 1) (-5151515) ++ xs.drop (i + 1) := by
  rw [List.set_append, if_neg (by simp), drop_cons xs i h]
  simp [List.replicate_succ', List.append_assoc]
theorem stamp_len (xs : List Int) {i : Nat} (h : i ≤ xs.length) : (List.replicate i (-5151515 : Int) ++ xs.drop i).length = xs.length := by simp; omega
theorem OwnR.putv {lo : Nat} {h : Heap} {b k cap : Nat} {xs : List Value} {e : TypeId} (ho : OwnR lo h (some ⟨b, 0, none⟩) k cap xs e 1) (i : Nat) (v : Value) : OwnR lo (putH h ⟨b, i, none⟩ v) (some ⟨b, 0, none⟩) k cap (xs.set i v) e 1 := by
  rcases ho with ⟨h1, _⟩ | ⟨b2, cs, h1, h2, h3, h4, h5, h6, h7⟩
  · cases h1
  · cases h1
    refine .inr ⟨b, cs.setIfInBounds i v, rfl, h2, h3.put i v, by rw [Array.size_setIfInBounds]; exact h4, h5, by rw [List.length_set]; exact h6, fun j hj => ?_⟩
    rw [List.length_set] at hj
    have hcs : j < cs.size := by omega
    rw [Array.getElem?_setIfInBounds, List.getElem?_set]
    by_cases e : i = j
    · subst e; simp [hcs, hj]
    · simp [e]; rw [h7 j hj]
theorem IL.put {h : Heap} {b cap : Nat} {l : List Int} (ho : IL h (some ⟨b, 0, none⟩) cap l) (i : Nat) (x : Int) : IL (putH h ⟨b, i, none⟩ (.int .i64 x)) (some ⟨b, 0, none⟩) cap (l.set i x) := by
  have := OwnR.putv ho i (.int .i64 x)
  unfold IL ints at *
  rw [List.length_set, List.map_set]; exact this

theorem new_blk3 {h : Heap} {a a1 : Option Addr} {n : Nat} (hb : blkA a1 = blkA a ∨ blkA a1 = some n) (hn : h.size ≤ n) : ∀ z, blkA a1 = some z → blkA a = some z ∨ h.size ≤ z := fun z e => by
  rcases hb with x | x
  · exact .inl (x ▸ e)
  · rw [x] at e; cases e; exact .inr hn
theorem new_blk2 {h : Heap} {o : Obj} {a a4 : Option Addr} (hb : ∀ z, blkA a4 = some z → blkA a = some z ∨ (h.push o).size ≤ z) (h1 : h.size ≤ (h.push o).size) : ∀ z, blkA a4 = some z → blkA a = some z ∨ h.size ≤ z := fun z e => by
  rcases hb z e with q | q
  · exact .inl q
  · exact .inr (Nat.le_trans h1 q)
theorem IL.none0 {h : Heap} {cap : Nat} {l : List Int} (ho : IL h none cap l) : cap = 0 ∧ l = [] := by
  rcases ho with ⟨_, h2, h3, h4⟩ | ⟨b, _, h1, _⟩
  · exact ⟨by omega, List.eq_nil_of_length_eq_zero (by omega)⟩
  · cases h1
theorem sliceV_full {P : Program} {t : TypeId} {z : Nat} {a : Option Addr} {len cap : Nat} {k : IntKind} (hz : elS P t = some z) (h : a = none → cap = 0) : sliceV P t (.slice a len cap) none (some (.int k (cap : Int))) = some (.slice a cap cap) := by
  cases a with
  | none => have := h rfl; subst this; exact sliceV_cut0 hz
  | some a => have := sliceV_hi (P := P) (t := t) (a := a) (len := len) (cap := cap) (k := k) (u := (cap : Int)) hz (by omega) (by omega); rw [Int.toNat_natCast] at this; exact this
theorem bl_pre {h : Heap} {b : Nat} {l r : List Int} (hb : BL h b (l ++ r)) : IL h (some ⟨b, 0, none⟩) (l ++ r).length l := by
  refine .inr ⟨b, _, rfl, Nat.zero_le _, hb, by rw [arr_size, Nat.mul_one], by rw [List.length_append]; omega, by simp [ints_len], fun j hj => ?_⟩
  rw [ints_len] at hj
  have hj2 : j < (l ++ r).length := by rw [List.length_append]; omega
  rw [arr_get hj2]
  simp [ints, hj, List.getElem?_append_left hj]
/-! ### kept lists -/
def Kp (h : Heap) (q : Option Addr × Nat) : Prop := IL h q.1 q.2 (List.replicate q.2 (-5151515)) ∧ q.2 ≤ 1000
theorem Kp.ext {h h' : Heap} {q : Option Addr × Nat} {S : Nat → Prop} (hk : Kp h q) (he : Ext S h h') (hS : ∀ b, blkA q.1 = some b → ¬ S b) : Kp h' q := ⟨hk.1.ext he hS, hk.2⟩
theorem Kp.nil (h : Heap) : Kp h (none, 0) := ⟨IL.nil _, by omega⟩
theorem rep_get (n j : Nat) (h : j < n) : (List.replicate n (-5151515 : Int)).getD j 0 = -5151515 := by simp [h]
theorem Kp.at {h : Heap} {b n : Nat} (hk : Kp h (some ⟨b, 0, none⟩, n)) : ∀ j, j < n → cellH h ⟨b, j, none⟩ = some (.int .i64 (-5151515)) := fun j hj => by
  have := hk.1
  simp only [] at this
  rw [this.at (by simpa using hj), rep_get _ _ hj]
theorem Kp.some {h : Heap} {q : Option Addr × Nat} (hk : Kp h q) (h0 : 0 < q.2) : ∃ b, q.1 = some ⟨b, 0, none⟩ ∧ ∀ j, j < q.2 → cellH h ⟨b, j, none⟩ = some (.int .i64 (-5151515)) := by
  obtain ⟨b, hb, _⟩ := hk.1.get (by simpa using h0)
  obtain ⟨a, n⟩ := q
  simp only [] at hb h0 ⊢
  subst hb
  exact ⟨b, rfl, hk.at⟩
/-! ### the desk -/
structure DS where
  ra : Option Addr
  rc : Nat
  rg : List Int
  ta : Option Addr
  lt : List Int
  xa : Option Addr
  xl : List Int
  ma : Option Addr
  st : Nat → Option Addr × Nat
  n : Nat
  na : Nat
  pin : Bool
  pinl : Bool
def dcs (s : DS) : Array Value := #[.slice s.ra s.rg.length s.rc, .slice s.ta s.lt.length s.lt.length, .slice s.xa s.xl.length s.xl.length, .slice s.ma s.xl.length s.xl.length, .slice (s.st 0).1 (s.st 0).2 (s.st 0).2, .slice (s.st 1).1 (s.st 1).2 (s.st 1).2, .slice (s.st 2).1 (s.st 2).2 (s.st 2).2, .slice (s.st 3).1 (s.st 3).2 (s.st 3).2, .int .i64 (s.n : Int), .slice (s.st 4).1 (s.st 4).2 (s.st 4).2, .int .i64 (s.na : Int), .bool s.pin, .slice (s.st 5).1 (s.st 5).2 (s.st 5).2, .bool s.pinl, .slice (s.st 6).1 (s.st 6).2 (s.st 6).2]
theorem dq {h : Heap} {U : Nat} {s : DS} (hB : B h U (dcs s) 35) : cellH h ⟨U, 0, none⟩ = some (.slice s.ra s.rg.length s.rc) ∧ cellH h ⟨U, 1, none⟩ = some (.slice s.ta s.lt.length s.lt.length) ∧ cellH h ⟨U, 2, none⟩ = some (.slice s.xa s.xl.length s.xl.length) ∧ cellH h ⟨U, 3, none⟩ = some (.slice s.ma s.xl.length s.xl.length) ∧ (∀ i, i < 4 → cellH h ⟨U, 4 + i, none⟩ = some (.slice (s.st i).1 (s.st i).2 (s.st i).2)) ∧ cellH h ⟨U, 8, none⟩ = some (.int .i64 (s.n : Int)) ∧ cellH h ⟨U, 9, none⟩ = some (.slice (s.st 4).1 (s.st 4).2 (s.st 4).2) ∧ cellH h ⟨U, 10, none⟩ = some (.int .i64 (s.na : Int)) ∧ cellH h ⟨U, 11, none⟩ = some (.bool s.pin) ∧ cellH h ⟨U, 12, none⟩ = some (.slice (s.st 5).1 (s.st 5).2 (s.st 5).2) ∧ cellH h ⟨U, 13, none⟩ = some (.bool s.pinl) ∧ cellH h ⟨U, 14, none⟩ = some (.slice (s.st 6).1 (s.st 6).2 (s.st 6).2) ∧ ∀ j, j < 15 → okPut h ⟨U, j, none⟩ = true := by
  refine ⟨hB.cell 0, hB.cell 1, hB.cell 2, hB.cell 3, fun i hi => ?_, hB.cell 8, hB.cell 9, hB.cell 10, hB.cell 11, hB.cell 12, hB.cell 13, hB.cell 14, fun j hj => hB.ok (by simpa [dcs] using hj)⟩
  have : i = 0 ∨ i = 1 ∨ i = 2 ∨ i = 3 := by omega
  rcases this with e | e | e | e <;> subst e <;> exact hB.cell _
theorem ds_old {h : Heap} {U : Nat} {s : DS} (hB : B h U (dcs s) 35) {i : Nat} (hi : i < 4) (q : Option Addr × Nat) : B (putH h ⟨U, 4 + i, none⟩ (.slice q.1 q.2 q.2)) U (dcs { s with st := ups s.st i q }) 35 := by
  refine (hB.put (4 + i) _).cong ?_
  have : i = 0 ∨ i = 1 ∨ i = 2 ∨ i = 3 := by omega
  rcases this with e | e | e | e <;> subst e <;> simp [dcs, ups]
/-- what keeping a list turns at the desk -/
structure DR (s s' : DS) (q : Option Addr × Nat) : Prop where
  st : ∀ i, s'.st i = s.st i ∨ s'.st i = q
  n : s'.n ≤ s.n + 1
  na : s'.na ≤ s.na + 1
  o : s'.ra = s.ra ∧ s'.rc = s.rc ∧ s'.rg = s.rg ∧ s'.ta = s.ta ∧ s'.lt = s.lt ∧ s'.xa = s.xa ∧ s'.xl = s.xl ∧ s'.ma = s.ma
theorem DR.refl (s : DS) (q : Option Addr × Nat) : DR s s q := ⟨fun _ => .inl rfl, by omega, by omega, rfl, rfl, rfl, rfl, rfl, rfl, rfl, rfl⟩
set_option maxHeartbeats 1600000 in
theorem keep_spec (h : Heap) (U : Nat) (s : DS) (dd : B h U (dcs s) 35) (a : Option Addr) (k : Nat) (ys : List Int) (hI : IL h a ys.length ys) (haU : ∀ b, blkA a = some b → b ≠ U) (hyl : ys.length ≤ 1000) (hn : s.n ≤ 900000000000000) (hna : s.na ≤ 900000000000001) :
    FC Try.prog 51 (#[.pointer (some ⟨U, 0, none⟩), .slice a k ys.length] : Array Value) h fun rv h' => rv = .tuple #[] ∧ ∃ s', B h' U (dcs s') 35 ∧ Kp h' (a, ys.length) ∧ DR s s' (a, ys.length) ∧ s'.na = s.na ∧ Ext (fun b => b = U ∨ blkA a = some b) h h' := by
  try clear e0 e1 e2 e3 e4 e8 e9 e10 e11 e12 e13 e14 hdok
  obtain ⟨e0, e1, e2, e3, e4, e8, e9, e10, e11, e12, e13, e14, hdok⟩ := dq (dd)
  refine FC_of [(0, .pointer (some ⟨U, 0, none⟩)), (1, .slice a k ys.length)] Try.func51 rfl Try.ntmps51 (by simp) rfl (fun R hR => ?_)
  refine V_sr T.mix (by kernel_rfl) (fun K1 hK1 => ?_)
  refine S_mv rfl ?_
  refine S_mv rfl ?_
  refine S_capl T.el32 rfl ?_
  refine S_sl rfl rfl rfl (sliceV_full T.el32 (fun e => by subst e; exact hI.none0.1)) ?_
  refine S_as rfl ?_
  refine S_nil (hK1 _ _ (V_keep [0, 4] (by simp only [proj, lk, reduceIte, Nat.reduceEqDiff]; rfl) ?_)); clear hK1
  refine V_seq (fun K2 hK2 => ?_)
  refine V_sr T.mix (by kernel_rfl) (fun K3 hK3 => ?_)
  refine S_as rfl ?_
  refine S_nil (hK3 _ _ (V_keep [0, 4, 5] (by simp only [proj, lk, reduceIte, Nat.reduceEqDiff]; rfl) ?_)); clear hK3
  refine V_block ?_
  refine V_loop (fun m l h' => ∃ (i : Nat) (hk : Heap), (i ≤ ys.length) ∧ (IL hk a ys.length (List.replicate i (-5151515) ++ ys.drop i)) ∧ (Ext (fun b => blkA a = some b) h hk) ∧ m = ys.length - i ∧ l = [(0, .pointer (some ⟨U, 0, none⟩)), (4, .slice a ys.length ys.length), (5, .int .i64 (i : Int))] ∧ hk = h') _ ⟨0, h, Nat.zero_le _, by simpa using hI, Ext.refl _ _, rfl, rfl, rfl⟩ ?_
  rintro m l h' ⟨i, hk, hi, hIk, hEk, rfl, rfl, rfl⟩ K4 hK4
  have hsl := stamp_len ys hi
  have ddk := dd.ext hEk (fun e => haU U e rfl)
  try clear e0 e1 e2 e3 e4 e8 e9 e10 e11 e12 e13 e14 hdok
  obtain ⟨e0, e1, e2, e3, e4, e8, e9, e10, e11, e12, e13, e14, hdok⟩ := dq (ddk)
  refine V_seq (fun K5 hK5 => ?_)
  refine V_sr T.mix (by kernel_rfl) (fun K6 hK6 => ?_)
  refine S_mv rfl ?_
  refine S_mv rfl ?_
  refine S_lenl T.el32 rfl ?_
  refine S_bin rfl rfl rfl ?_
  refine S_nil (hK6 _ _ (V_keep [0, 4, 5, 13] (by simp only [proj, lk, reduceIte, Nat.reduceEqDiff]; rfl) ?_)); clear hK6
  refine V_condp rfl (fun c119 => ?_) (fun c119 => ?_)
  · skip
    obtain ⟨bb, hbb, _, _, hoo⟩ := hIk.get (by omega)
    subst hbb
    refine V_skipk [0, 4, 5] (by simp only [proj, lk, reduceIte, Nat.reduceEqDiff]; rfl) ?_
    refine hK5 _ _ ?_; clear hK5
    refine V_seq (fun K7 hK7 => ?_)
    refine V_block ?_
    refine V_reg T.mix (by kernel_rfl) ?_
    refine S_mv rfl ?_
    refine S_mv rfl ?_
    first | refine S_ixn T.el32 rfl rfl (by omega) ?_ | refine S_ix1 T.el32 rfl rfl (by omega) (by omega) ?_ | refine S_ix T.el32 rfl rfl (by omega) (by omega) ?_
    refine S_st T.sz3 rfl rfl rfl rfl (by simp (disch := omega) only [hoo]) ?_
    generalize hh : putH _ _ _ = h9
    have hI9 : IL h9 (some ⟨bb, 0, none⟩) ys.length (List.replicate (i + 1) (-5151515) ++ ys.drop (i + 1)) := by rw [← hh, ← stamp_set ys (by omega)]; exact hIk.put i (-5151515)
    have hE9 : Ext (fun b => blkA (some (⟨bb, 0, none⟩ : Addr)) = some b) hk h9 := by rw [← hh]; exact Ext.put _ _ rfl
    clear hh
    refine S_nilk [0, 4, 5] (by simp only [proj, lk, reduceIte, Nat.reduceEqDiff]; rfl) ?_
    refine hK7 _ _ ?_; clear hK7
    refine V_reg T.mix (by kernel_rfl) ?_
    refine S_mv rfl ?_
    first | refine S_add rfl rfl (by omega) (by omega) ?_ | refine S_bin rfl rfl rfl ?_
    refine S_as rfl ?_
    refine S_nilk [0, 4, 5] (by simp only [proj, lk, reduceIte, Nat.reduceEqDiff]; rfl) ?_
    exact hK4 _ _ ⟨_, by omega, i + 1, h9, by omega, hI9, hEk.trans hE9, rfl, rfl, rfl⟩
  · skip
    have hie : i = ys.length := by omega
    have hkp : Kp hk (a, ys.length) := ⟨by have h9_ := hIk; rw [hie, List.drop_length, List.append_nil] at h9_; exact h9_, hyl⟩
    refine V_exitk [0, 4] rfl (by simp only [proj, lk, reduceIte, Nat.reduceEqDiff]; rfl) ?_
    refine hK2 _ _ ?_; clear hK2
    refine V_sr T.mix (by kernel_rfl) (fun K8 hK8 => ?_)
    refine S_mv rfl ?_
    refine S_lenl T.el32 rfl ?_
    refine S_bin rfl rfl rfl ?_
    refine S_nil (hK8 _ _ (V_keep [0, 4, 21] (by simp only [proj, lk, reduceIte, Nat.reduceEqDiff]; rfl) ?_)); clear hK8
    refine V_condp rfl (fun c122 => ?_) (fun c122 => ?_)
    · skip
      refine V_sr T.mix (by kernel_rfl) (fun K9 hK9 => ?_)
      refine S_mv rfl ?_
      refine S_mv rfl ?_
      refine S_nc rfl ?_
      first | refine S_fa0 T.f35_5 rfl ?_ | refine S_fa T.f35_5 rfl ?_
      refine S_ldK T.ag3 rfl (fun K' hK' => ?_)
      simp (disch := omega) only [e0, e1, e2, e3, e4, e8, e9, e10, e11, e12, e13, e14, oP_some, Nat.add_zero]
      refine hK' _ ?_; clear hK' K'
      refine S_rem rfl rfl (by omega) (by omega) ?_
      rw [show (s.n : Int) % 4 = ((s.n % 4 : Nat) : Int) by omega]
      refine S_mv rfl ?_
      refine S_nc rfl ?_
      first | refine S_fa0 T.f35_4 rfl ?_ | refine S_fa T.f35_4 rfl ?_
      first | refine S_ixan T.ar33 rfl rfl (by omega) ?_ | refine S_ixa1 T.ar33 rfl rfl (by omega) (by omega) ?_
      refine S_st T.sz32 rfl rfl rfl rfl (by simp (disch := omega) only [hdok]) ?_
      generalize hh : putH _ _ _ = h1
      have dd1 : B h1 U (dcs { s with st := ups s.st (s.n % 4) (a, ys.length) }) 35 := by rw [← hh]; exact ds_old ddk (by omega) (a, ys.length)
      have hE1 : Ext (fun b => b = U) hk h1 := by rw [← hh]; exact Ext.put _ _ rfl
      clear hh
      try clear e0 e1 e2 e3 e4 e8 e9 e10 e11 e12 e13 e14 hdok
      obtain ⟨e0, e1, e2, e3, e4, e8, e9, e10, e11, e12, e13, e14, hdok⟩ := dq (dd1)
      refine S_nil (hK9 _ _ (V_keep [0] (by simp only [proj, lk, reduceIte, Nat.reduceEqDiff]; rfl) ?_)); clear hK9
      refine V_reg T.mix (by kernel_rfl) ?_
      refine S_mv rfl ?_
      refine S_nc rfl ?_
      first | refine S_fa0 T.f35_5 rfl ?_ | refine S_fa T.f35_5 rfl ?_
      refine S_ldK T.ag3 rfl (fun K' hK' => ?_)
      simp (disch := omega) only [e0, e1, e2, e3, e4, e8, e9, e10, e11, e12, e13, e14, oP_some, Nat.add_zero]
      refine hK' _ ?_; clear hK' K'
      refine S_addN (s.n + 1) rfl rfl (by omega) (by omega) ?_
      refine S_nc rfl ?_
      first | refine S_fa0 T.f35_5 rfl ?_ | refine S_fa T.f35_5 rfl ?_
      refine S_st T.sz3 rfl rfl rfl rfl (by simp (disch := omega) only [hdok]) ?_
      generalize hh : putH _ _ _ = h2
      have dd2 : B h2 U (dcs { s with st := ups s.st (s.n % 4) (a, ys.length), n := s.n + 1 }) 35 := by rw [← hh]; exact (dd1.put 8 _).cong (by simp [dcs])
      have hE2 : Ext (fun b => b = U) h1 h2 := by rw [← hh]; exact Ext.put _ _ rfl
      clear hh
      refine S_nilk [] (by simp only [proj, lk, reduceIte, Nat.reduceEqDiff]; rfl) ?_
      -- end
      refine hR _ _ (ret0 rfl ?_)
      have hE12 := hE1.trans hE2
      exact ⟨rfl, _, dd2, hkp.ext hE12 (fun b e => haU b e), ⟨fun i => by by_cases e : i = s.n % 4; (right; simp only []; rw [e, ups_eq]); (left; simp only []; rw [ups_ne _ _ e]), Nat.le_refl _, by simp, rfl, rfl, rfl, rfl, rfl, rfl, rfl, rfl⟩, rfl, (hEk.mono fun _ e => .inr e).trans (hE12.mono fun _ e => .inl e)⟩
    · skip
      refine V_skipk [] (by simp only [proj, lk, reduceIte, Nat.reduceEqDiff]; rfl) ?_
      -- end
      refine hR _ _ (ret0 rfl ?_)
      exact ⟨rfl, s, ddk, hkp, DR.refl _ _, rfl, hEk.mono fun _ e => .inr e⟩
set_option maxHeartbeats 1600000 in
theorem took_spec (h : Heap) (U : Nat) (s : DS) (dd : B h U (dcs s) 35) (a : Option Addr) (k : Nat) (ys : List Int) (hI : IL h a ys.length ys) (haU : ∀ b, blkA a = some b → b ≠ U) (hyl : ys.length ≤ 1000) (hn : s.n ≤ 900000000000000) (hna : s.na ≤ 900000000000001) :
    FC Try.prog 38 (#[.pointer (some ⟨U, 0, none⟩), .slice a k ys.length] : Array Value) h fun rv h' => rv = .tuple #[] ∧ ∃ s', B h' U (dcs s') 35 ∧ Kp h' (a, ys.length) ∧ DR s s' (a, ys.length) ∧ Ext (fun b => b = U ∨ blkA a = some b) h h' := by
  try clear e0 e1 e2 e3 e4 e8 e9 e10 e11 e12 e13 e14 hdok
  obtain ⟨e0, e1, e2, e3, e4, e8, e9, e10, e11, e12, e13, e14, hdok⟩ := dq (dd)
  refine FC_of [(0, .pointer (some ⟨U, 0, none⟩)), (1, .slice a k ys.length)] Try.func38 rfl Try.ntmps38 (by simp) rfl (fun R hR => ?_)
  refine V_sr T.mix (by kernel_rfl) (fun K1 hK1 => ?_)
  refine S_mv rfl ?_
  refine S_nc rfl ?_
  first | refine S_fa0 T.f35_10 rfl ?_ | refine S_fa T.f35_10 rfl ?_
  refine S_ldK T.ag4 rfl (fun K' hK' => ?_)
  simp (disch := omega) only [e0, e1, e2, e3, e4, e8, e9, e10, e11, e12, e13, e14, oP_some, Nat.add_zero]
  refine hK' _ ?_; clear hK' K'
  refine S_as rfl ?_
  refine S_nil (hK1 _ _ (V_keep [0, 1, 4] (by simp only [proj, lk, reduceIte, Nat.reduceEqDiff]; rfl) ?_)); clear hK1
  refine V_sr T.mix (by kernel_rfl) (fun K2 hK2 => ?_)
  refine S_mv rfl ?_
  refine S_nc rfl ?_
  first | refine S_fa0 T.f35_10 rfl ?_ | refine S_fa T.f35_10 rfl ?_
  refine S_st T.sz4 rfl rfl rfl rfl (by simp (disch := omega) only [hdok]) ?_
  generalize hh : putH _ _ _ = h1
  have dd1 : B h1 U (dcs { s with pinl := false }) 35 := by rw [← hh]; exact (dd.put 13 _).cong (by simp [dcs])
  have hE1 : Ext (fun b => b = U) h h1 := by rw [← hh]; exact Ext.put _ _ rfl
  clear hh
  have hI1 := hI.ext hE1 (fun b e => haU b e)
  try clear e0 e1 e2 e3 e4 e8 e9 e10 e11 e12 e13 e14 hdok
  obtain ⟨e0, e1, e2, e3, e4, e8, e9, e10, e11, e12, e13, e14, hdok⟩ := dq (dd1)
  refine S_nil (hK2 _ _ (V_keep [0, 1, 4] (by simp only [proj, lk, reduceIte, Nat.reduceEqDiff]; rfl) ?_)); clear hK2
  refine V_seq (fun K3 hK3 => ?_)
  refine V_sr T.mix (by kernel_rfl) (fun K4 hK4 => ?_)
  refine S_mv rfl ?_
  refine S_notb rfl ?_
  refine S_nil (hK4 _ _ (V_keep [0, 1, 14] (by simp only [proj, lk, reduceIte, Nat.reduceEqDiff]; rfl) ?_)); clear hK4
  refine V_condb rfl (fun c81 => ?_) (fun c81 => ?_)
  · skip
    refine V_sr T.mix (by kernel_rfl) (fun K5 hK5 => ?_)
    refine S_mv rfl ?_
    refine S_mv rfl ?_
    refine S_call T.hb51 rfl ?_
    refine FC.mono (keep_spec h1 U { s with pinl := false } dd1 a k ys hI1 haU hyl hn hna) ?_
    rintro v' h2 ⟨rfl, s2, dd2, kp2, dr2, _, hE2⟩
    refine S_nil (hK5 _ _ (V_keep [] (by simp only [proj, lk, reduceIte, Nat.reduceEqDiff]; rfl) ?_)); clear hK5
    refine V_ret ?_
    refine hR _ _ (ret0 rfl ?_)
    exact ⟨rfl, s2, dd2, kp2, ⟨dr2.st, dr2.n, dr2.na, dr2.o⟩, (hE1.mono fun _ e => .inl e).trans hE2⟩
  · skip
    refine V_skipk [0, 1] (by simp only [proj, lk, reduceIte, Nat.reduceEqDiff]; rfl) ?_
    refine hK3 _ _ ?_; clear hK3
    refine V_sr T.mix (by kernel_rfl) (fun K6 hK6 => ?_)
    refine S_mv rfl ?_
    refine S_mv rfl ?_
    refine S_mv rfl ?_
    refine S_capl T.el32 rfl ?_
    refine S_sl rfl rfl rfl (sliceV_full T.el32 (fun e => by subst e; exact hI.none0.1)) ?_
    refine S_nc rfl ?_
    first | refine S_fa0 T.f35_11 rfl ?_ | refine S_fa T.f35_11 rfl ?_
    refine S_st T.sz32 rfl rfl rfl rfl (by simp (disch := omega) only [hdok]) ?_
    generalize hh : putH _ _ _ = h2
    have dd2 : B h2 U (dcs { s with pinl := false, st := ups s.st 6 (a, ys.length) }) 35 := by rw [← hh]; exact (dd1.put 14 _).cong (by simp [dcs, ups])
    have hE2 : Ext (fun b => b = U) h1 h2 := by rw [← hh]; exact Ext.put _ _ rfl
    clear hh
    have hI2 := hI1.ext hE2 (fun b e => haU b e)
    refine S_nil (hK6 _ _ (V_keep [0] (by simp only [proj, lk, reduceIte, Nat.reduceEqDiff]; rfl) ?_)); clear hK6
    refine V_sr T.mix (by kernel_rfl) (fun K7 hK7 => ?_)
    refine S_as rfl ?_
    refine S_nil (hK7 _ _ (V_keep [0, 5] (by simp only [proj, lk, reduceIte, Nat.reduceEqDiff]; rfl) ?_)); clear hK7
    refine V_block ?_
    refine V_loop (fun m l h' => ∃ (i : Nat) (hk : Heap), (i ≤ ys.length) ∧ (IL hk a ys.length (List.replicate i (-5151515) ++ ys.drop i)) ∧ (Ext (fun b => blkA a = some b) h2 hk) ∧ m = ys.length - i ∧ l = [(0, .pointer (some ⟨U, 0, none⟩)), (5, .int .i64 (i : Int))] ∧ hk = h') _ ⟨0, h2, Nat.zero_le _, by simpa using hI2, Ext.refl _ _, rfl, rfl, rfl⟩ ?_
    rintro m l h' ⟨i, hk, hi, hIk, hEk, rfl, rfl, rfl⟩ K8 hK8
    have hsl := stamp_len ys hi
    have ddk := dd2.ext hEk (fun e => haU U e rfl)
    try clear e0 e1 e2 e3 e4 e8 e9 e10 e11 e12 e13 e14 hdok
    obtain ⟨e0, e1, e2, e3, e4, e8, e9, e10, e11, e12, e13, e14, hdok⟩ := dq (ddk)
    simp only [ups_eq] at e14
    refine V_seq (fun K9 hK9 => ?_)
    refine V_sr T.mix (by kernel_rfl) (fun K10 hK10 => ?_)
    refine S_mv rfl ?_
    refine S_mv rfl ?_
    refine S_nc rfl ?_
    first | refine S_fa0 T.f35_11 rfl ?_ | refine S_fa T.f35_11 rfl ?_
    refine S_ldK T.ag32 rfl (fun K' hK' => ?_)
    simp (disch := omega) only [e0, e1, e2, e3, e4, e8, e9, e10, e11, e12, e13, e14, oP_some, Nat.add_zero]
    refine hK' _ ?_; clear hK' K'
    refine S_lenl T.el32 rfl ?_
    refine S_bin rfl rfl rfl ?_
    refine S_nil (hK10 _ _ (V_keep [0, 5, 31] (by simp only [proj, lk, reduceIte, Nat.reduceEqDiff]; rfl) ?_)); clear hK10
    refine V_condp rfl (fun c86 => ?_) (fun c86 => ?_)
    · skip
      obtain ⟨bb, hbb, _, _, hoo⟩ := hIk.get (by omega)
      subst hbb
      refine V_skipk [0, 5] (by simp only [proj, lk, reduceIte, Nat.reduceEqDiff]; rfl) ?_
      refine hK9 _ _ ?_; clear hK9
      refine V_seq (fun K11 hK11 => ?_)
      refine V_block ?_
      refine V_reg T.mix (by kernel_rfl) ?_
      refine S_mv rfl ?_
      refine S_nc rfl ?_
      first | refine S_fa0 T.f35_11 rfl ?_ | refine S_fa T.f35_11 rfl ?_
      refine S_ldK T.ag32 rfl (fun K' hK' => ?_)
      simp (disch := omega) only [e0, e1, e2, e3, e4, e8, e9, e10, e11, e12, e13, e14, oP_some, Nat.add_zero]
      refine hK' _ ?_; clear hK' K'
      refine S_mv rfl ?_
      first | refine S_ixn T.el32 rfl rfl (by omega) ?_ | refine S_ix1 T.el32 rfl rfl (by omega) (by omega) ?_ | refine S_ix T.el32 rfl rfl (by omega) (by omega) ?_
      refine S_st T.sz3 rfl rfl rfl rfl (by simp (disch := omega) only [hoo]) ?_
      generalize hh : putH _ _ _ = h9
      have hI9 : IL h9 (some ⟨bb, 0, none⟩) ys.length (List.replicate (i + 1) (-5151515) ++ ys.drop (i + 1)) := by rw [← hh, ← stamp_set ys (by omega)]; exact hIk.put i (-5151515)
      have hE9 : Ext (fun b => blkA (some (⟨bb, 0, none⟩ : Addr)) = some b) hk h9 := by rw [← hh]; exact Ext.put _ _ rfl
      clear hh
      refine S_nilk [0, 5] (by simp only [proj, lk, reduceIte, Nat.reduceEqDiff]; rfl) ?_
      refine hK11 _ _ ?_; clear hK11
      refine V_reg T.mix (by kernel_rfl) ?_
      refine S_mv rfl ?_
      first | refine S_add rfl rfl (by omega) (by omega) ?_ | refine S_bin rfl rfl rfl ?_
      refine S_as rfl ?_
      refine S_nilk [0, 5] (by simp only [proj, lk, reduceIte, Nat.reduceEqDiff]; rfl) ?_
      exact hK8 _ _ ⟨_, by omega, i + 1, h9, by omega, hI9, hEk.trans hE9, rfl, rfl, rfl⟩
    · skip
      have hie : i = ys.length := by omega
      have hkp : Kp hk (a, ys.length) := ⟨by have h9_ := hIk; rw [hie, List.drop_length, List.append_nil] at h9_; exact h9_, hyl⟩
      refine V_exitk [] rfl (by simp only [proj, lk, reduceIte, Nat.reduceEqDiff]; rfl) ?_
      -- end
      refine hR _ _ (ret0 rfl ?_)
      exact ⟨rfl, _, ddk, hkp, ⟨fun i => by by_cases e : i = 6; (right; simp only []; rw [e, ups_eq]); (left; simp only []; rw [ups_ne _ _ e]), by simp, by simp, rfl, rfl, rfl, rfl, rfl, rfl, rfl, rfl⟩, ((hE1.trans hE2).mono fun _ e => .inl e).trans (hEk.mono fun _ e => .inr e)⟩
set_option maxHeartbeats 1600000 in
theorem hold_spec (h : Heap) (U : Nat) (s : DS) (dd : B h U (dcs s) 35) (a : Option Addr) (k : Nat) (ys : List Int) (hI : IL h a ys.length ys) (haU : ∀ b, blkA a = some b → b ≠ U) (hyl : ys.length ≤ 1000) (hn : s.n ≤ 900000000000000) (hna : s.na ≤ 900000000000000) :
    FC Try.prog 43 (#[.pointer (some ⟨U, 0, none⟩), .slice a k ys.length] : Array Value) h fun rv h' => rv = .tuple #[] ∧ ∃ s', B h' U (dcs s') 35 ∧ Kp h' (a, ys.length) ∧ DR s s' (a, ys.length) ∧ Ext (fun b => b = U ∨ blkA a = some b) h h' := by
  try clear e0 e1 e2 e3 e4 e8 e9 e10 e11 e12 e13 e14 hdok
  obtain ⟨e0, e1, e2, e3, e4, e8, e9, e10, e11, e12, e13, e14, hdok⟩ := dq (dd)
  refine FC_of [(0, .pointer (some ⟨U, 0, none⟩)), (1, .slice a k ys.length)] Try.func43 rfl Try.ntmps43 (by simp) rfl (fun R hR => ?_)
  refine V_sr T.mix (by kernel_rfl) (fun K1 hK1 => ?_)
  refine S_mv rfl ?_
  refine S_nc rfl ?_
  first | refine S_fa0 T.f35_8 rfl ?_ | refine S_fa T.f35_8 rfl ?_
  refine S_ldK T.ag4 rfl (fun K' hK' => ?_)
  simp (disch := omega) only [e0, e1, e2, e3, e4, e8, e9, e10, e11, e12, e13, e14, oP_some, Nat.add_zero]
  refine hK' _ ?_; clear hK' K'
  refine S_as rfl ?_
  refine S_nil (hK1 _ _ (V_keep [0, 1, 4] (by simp only [proj, lk, reduceIte, Nat.reduceEqDiff]; rfl) ?_)); clear hK1
  refine V_sr T.mix (by kernel_rfl) (fun K2 hK2 => ?_)
  refine S_mv rfl ?_
  refine S_nc rfl ?_
  first | refine S_fa0 T.f35_8 rfl ?_ | refine S_fa T.f35_8 rfl ?_
  refine S_st T.sz4 rfl rfl rfl rfl (by simp (disch := omega) only [hdok]) ?_
  generalize hh : putH _ _ _ = h1
  have dd1 : B h1 U (dcs { s with pin := false }) 35 := by rw [← hh]; exact (dd.put 11 _).cong (by simp [dcs])
  have hE1 : Ext (fun b => b = U) h h1 := by rw [← hh]; exact Ext.put _ _ rfl
  clear hh
  have hI1 := hI.ext hE1 (fun b e => haU b e)
  try clear e0 e1 e2 e3 e4 e8 e9 e10 e11 e12 e13 e14 hdok
  obtain ⟨e0, e1, e2, e3, e4, e8, e9, e10, e11, e12, e13, e14, hdok⟩ := dq (dd1)
  refine S_nil (hK2 _ _ (V_keep [0, 1, 4] (by simp only [proj, lk, reduceIte, Nat.reduceEqDiff]; rfl) ?_)); clear hK2
  refine V_seq (fun K3 hK3 => ?_)
  refine V_sr T.mix (by kernel_rfl) (fun K4 hK4 => ?_)
  refine S_mv rfl ?_
  refine S_capl T.el32 rfl ?_
  refine S_bin rfl rfl rfl ?_
  refine S_nil (hK4 _ _ (V_keep [0, 1, 4, 16] (by simp only [proj, lk, reduceIte, Nat.reduceEqDiff]; rfl) ?_)); clear hK4
  refine V_condp rfl (fun c95 => ?_) (fun c95 => ?_)
  · skip
    refine V_ret ?_
    refine hR _ _ (ret0 rfl ?_)
    exact ⟨rfl, _, dd1, ⟨by have h9 : ys = [] := List.eq_nil_of_length_eq_zero (by omega); subst h9; exact hI1, hyl⟩, ⟨fun i => .inl rfl, by simp, by simp, rfl, rfl, rfl, rfl, rfl, rfl, rfl, rfl⟩, hE1.mono fun _ e => .inl e⟩
  · skip
    refine V_skipk [0, 1, 4] (by simp only [proj, lk, reduceIte, Nat.reduceEqDiff]; rfl) ?_
    refine hK3 _ _ ?_; clear hK3
    refine V_sr T.mix (by kernel_rfl) (fun K5 hK5 => ?_)
    refine S_mv rfl ?_
    refine S_nc rfl ?_
    first | refine S_fa0 T.f35_7 rfl ?_ | refine S_fa T.f35_7 rfl ?_
    refine S_ldK T.ag3 rfl (fun K' hK' => ?_)
    simp (disch := omega) only [e0, e1, e2, e3, e4, e8, e9, e10, e11, e12, e13, e14, oP_some, Nat.add_zero]
    refine hK' _ ?_; clear hK' K'
    refine S_addN (s.na + 1) rfl rfl (by omega) (by omega) ?_
    refine S_nc rfl ?_
    first | refine S_fa0 T.f35_7 rfl ?_ | refine S_fa T.f35_7 rfl ?_
    refine S_st T.sz3 rfl rfl rfl rfl (by simp (disch := omega) only [hdok]) ?_
    generalize hh : putH _ _ _ = h2
    have dd2 : B h2 U (dcs { s with pin := false, na := s.na + 1 }) 35 := by rw [← hh]; exact (dd1.put 10 _).cong (by simp [dcs])
    have hE2 : Ext (fun b => b = U) h1 h2 := by rw [← hh]; exact Ext.put _ _ rfl
    clear hh
    have hI2 := hI1.ext hE2 (fun b e => haU b e)
    try clear e0 e1 e2 e3 e4 e8 e9 e10 e11 e12 e13 e14 hdok
    obtain ⟨e0, e1, e2, e3, e4, e8, e9, e10, e11, e12, e13, e14, hdok⟩ := dq (dd2)
    refine S_nil (hK5 _ _ (V_keep [0, 1, 4] (by simp only [proj, lk, reduceIte, Nat.reduceEqDiff]; rfl) ?_)); clear hK5
    refine V_seq (fun K6 hK6 => ?_)
    refine V_sr T.mix (by kernel_rfl) (fun K7 hK7 => ?_)
    refine S_mv rfl ?_
    refine S_nil (hK7 _ _ (V_keep [0, 1, 24] (by simp only [proj, lk, reduceIte, Nat.reduceEqDiff]; rfl) ?_)); clear hK7
    refine V_condb rfl (fun c99 => ?_) (fun c99 => ?_)
    · skip
      refine V_sr T.mix (by kernel_rfl) (fun K8 hK8 => ?_)
      refine S_mv rfl ?_
      refine S_mv rfl ?_
      refine S_mv rfl ?_
      refine S_capl T.el32 rfl ?_
      refine S_sl rfl rfl rfl (sliceV_full T.el32 (fun e => by subst e; exact hI.none0.1)) ?_
      refine S_nc rfl ?_
      first | refine S_fa0 T.f35_9 rfl ?_ | refine S_fa T.f35_9 rfl ?_
      refine S_st T.sz32 rfl rfl rfl rfl (by simp (disch := omega) only [hdok]) ?_
      generalize hh : putH _ _ _ = h3
      have dd3 : B h3 U (dcs { s with pin := false, na := s.na + 1, st := ups s.st 5 (a, ys.length) }) 35 := by rw [← hh]; exact (dd2.put 12 _).cong (by simp [dcs, ups])
      have hE3 : Ext (fun b => b = U) h2 h3 := by rw [← hh]; exact Ext.put _ _ rfl
      clear hh
      have hI3 := hI2.ext hE3 (fun b e => haU b e)
      refine S_nil (hK8 _ _ (V_keep [0] (by simp only [proj, lk, reduceIte, Nat.reduceEqDiff]; rfl) ?_)); clear hK8
      refine V_seq (fun K9 hK9 => ?_)
      refine V_sr T.mix (by kernel_rfl) (fun K10 hK10 => ?_)
      refine S_as rfl ?_
      refine S_nil (hK10 _ _ (V_keep [0, 5] (by simp only [proj, lk, reduceIte, Nat.reduceEqDiff]; rfl) ?_)); clear hK10
      refine V_block ?_
      refine V_loop (fun m l h' => ∃ (i : Nat) (hk : Heap), (i ≤ ys.length) ∧ (IL hk a ys.length (List.replicate i (-5151515) ++ ys.drop i)) ∧ (Ext (fun b => blkA a = some b) h3 hk) ∧ m = ys.length - i ∧ l = [(0, .pointer (some ⟨U, 0, none⟩)), (5, .int .i64 (i : Int))] ∧ hk = h') _ ⟨0, h3, Nat.zero_le _, by simpa using hI3, Ext.refl _ _, rfl, rfl, rfl⟩ ?_
      rintro m l h' ⟨i, hk, hi, hIk, hEk, rfl, rfl, rfl⟩ K11 hK11
      have hsl := stamp_len ys hi
      have ddk := dd3.ext hEk (fun e => haU U e rfl)
      try clear e0 e1 e2 e3 e4 e8 e9 e10 e11 e12 e13 e14 hdok
      obtain ⟨e0, e1, e2, e3, e4, e8, e9, e10, e11, e12, e13, e14, hdok⟩ := dq (ddk)
      simp only [ups_eq] at e12
      refine V_seq (fun K12 hK12 => ?_)
      refine V_sr T.mix (by kernel_rfl) (fun K13 hK13 => ?_)
      refine S_mv rfl ?_
      refine S_mv rfl ?_
      refine S_nc rfl ?_
      first | refine S_fa0 T.f35_9 rfl ?_ | refine S_fa T.f35_9 rfl ?_
      refine S_ldK T.ag32 rfl (fun K' hK' => ?_)
      simp (disch := omega) only [e0, e1, e2, e3, e4, e8, e9, e10, e11, e12, e13, e14, oP_some, Nat.add_zero]
      refine hK' _ ?_; clear hK' K'
      refine S_lenl T.el32 rfl ?_
      refine S_bin rfl rfl rfl ?_
      refine S_nil (hK13 _ _ (V_keep [0, 5, 38] (by simp only [proj, lk, reduceIte, Nat.reduceEqDiff]; rfl) ?_)); clear hK13
      refine V_condp rfl (fun c101 => ?_) (fun c101 => ?_)
      · skip
        obtain ⟨bb, hbb, _, _, hoo⟩ := hIk.get (by omega)
        subst hbb
        refine V_skipk [0, 5] (by simp only [proj, lk, reduceIte, Nat.reduceEqDiff]; rfl) ?_
        refine hK12 _ _ ?_; clear hK12
        refine V_seq (fun K14 hK14 => ?_)
        refine V_block ?_
        refine V_reg T.mix (by kernel_rfl) ?_
        refine S_mv rfl ?_
        refine S_nc rfl ?_
        first | refine S_fa0 T.f35_9 rfl ?_ | refine S_fa T.f35_9 rfl ?_
        refine S_ldK T.ag32 rfl (fun K' hK' => ?_)
        simp (disch := omega) only [e0, e1, e2, e3, e4, e8, e9, e10, e11, e12, e13, e14, oP_some, Nat.add_zero]
        refine hK' _ ?_; clear hK' K'
        refine S_mv rfl ?_
        first | refine S_ixn T.el32 rfl rfl (by omega) ?_ | refine S_ix1 T.el32 rfl rfl (by omega) (by omega) ?_ | refine S_ix T.el32 rfl rfl (by omega) (by omega) ?_
        refine S_st T.sz3 rfl rfl rfl rfl (by simp (disch := omega) only [hoo]) ?_
        generalize hh : putH _ _ _ = h9
        have hI9 : IL h9 (some ⟨bb, 0, none⟩) ys.length (List.replicate (i + 1) (-5151515) ++ ys.drop (i + 1)) := by rw [← hh, ← stamp_set ys (by omega)]; exact hIk.put i (-5151515)
        have hE9 : Ext (fun b => blkA (some (⟨bb, 0, none⟩ : Addr)) = some b) hk h9 := by rw [← hh]; exact Ext.put _ _ rfl
        clear hh
        refine S_nilk [0, 5] (by simp only [proj, lk, reduceIte, Nat.reduceEqDiff]; rfl) ?_
        refine hK14 _ _ ?_; clear hK14
        refine V_reg T.mix (by kernel_rfl) ?_
        refine S_mv rfl ?_
        first | refine S_add rfl rfl (by omega) (by omega) ?_ | refine S_bin rfl rfl rfl ?_
        refine S_as rfl ?_
        refine S_nilk [0, 5] (by simp only [proj, lk, reduceIte, Nat.reduceEqDiff]; rfl) ?_
        exact hK11 _ _ ⟨_, by omega, i + 1, h9, by omega, hI9, hEk.trans hE9, rfl, rfl, rfl⟩
      · skip
        have hie : i = ys.length := by omega
        have hkp : Kp hk (a, ys.length) := ⟨by have h9_ := hIk; rw [hie, List.drop_length, List.append_nil] at h9_; exact h9_, hyl⟩
        refine V_exitk [] rfl (by simp only [proj, lk, reduceIte, Nat.reduceEqDiff]; rfl) ?_
        refine hK9 _ _ ?_; clear hK9
        refine V_ret ?_
        refine hR _ _ (ret0 rfl ?_)
        exact ⟨rfl, _, ddk, hkp, ⟨fun i => by by_cases e : i = 5; (right; simp only []; rw [e, ups_eq]); (left; simp only []; rw [ups_ne _ _ e]), by simp, Nat.le_refl _, rfl, rfl, rfl, rfl, rfl, rfl, rfl, rfl⟩, (((hE1.trans hE2).trans hE3).mono fun _ e => .inl e).trans (hEk.mono fun _ e => .inr e)⟩
    · skip
      refine V_skipk [0, 1] (by simp only [proj, lk, reduceIte, Nat.reduceEqDiff]; rfl) ?_
      refine hK6 _ _ ?_; clear hK6
      refine V_seq (fun K15 hK15 => ?_)
      refine V_sr T.mix (by kernel_rfl) (fun K16 hK16 => ?_)
      refine S_mv rfl ?_
      refine S_nc rfl ?_
      first | refine S_fa0 T.f35_7 rfl ?_ | refine S_fa T.f35_7 rfl ?_
      refine S_ldK T.ag3 rfl (fun K' hK' => ?_)
      simp (disch := omega) only [e0, e1, e2, e3, e4, e8, e9, e10, e11, e12, e13, e14, oP_some, Nat.add_zero]
      refine hK' _ ?_; clear hK' K'
      refine S_mv rfl ?_
      refine S_nc rfl ?_
      first | refine S_fa0 T.f35_7 rfl ?_ | refine S_fa T.f35_7 rfl ?_
      refine S_ldK T.ag3 rfl (fun K' hK' => ?_)
      simp (disch := omega) only [e0, e1, e2, e3, e4, e8, e9, e10, e11, e12, e13, e14, oP_some, Nat.add_zero]
      refine hK' _ ?_; clear hK' K'
      refine S_subN s.na rfl rfl (by omega) (by omega) ?_
      refine S_nand (s.na + 1) s.na ((s.na + 1) &&& s.na) rfl rfl rfl rfl rfl (Nat.lt_of_le_of_lt (show s.na + 1 ≤ 900000000000001 by omega) (by decide)) (Nat.lt_of_le_of_lt (show s.na ≤ 900000000000001 by omega) (by decide)) ?_
      refine S_bin rfl rfl rfl ?_
      refine S_nil (hK16 _ _ (V_keep [0, 1, 57] (by simp only [proj, lk, reduceIte, Nat.reduceEqDiff]; rfl) ?_)); clear hK16
      refine V_condp rfl (fun c106 => ?_) (fun c106 => ?_)
      · skip
        refine V_sr T.mix (by kernel_rfl) (fun K17 hK17 => ?_)
        refine S_mv rfl ?_
        refine S_mv rfl ?_
        refine S_call T.hb51 rfl ?_
        refine FC.mono (keep_spec h2 U { s with pin := false, na := s.na + 1 } dd2 a k ys hI2 haU hyl hn (by show s.na + 1 ≤ 900000000000001; omega)) ?_
        rintro v' h3 ⟨rfl, s3, dd3, kp3, dr3, hna3, hE3⟩
        refine S_nil (hK17 _ _ (V_keep [] (by simp only [proj, lk, reduceIte, Nat.reduceEqDiff]; rfl) ?_)); clear hK17
        refine V_ret ?_
        refine hR _ _ (ret0 rfl ?_)
        exact ⟨rfl, s3, dd3, kp3, ⟨dr3.st, dr3.n, by rw [hna3]; exact Nat.le_refl _, dr3.o⟩, ((hE1.trans hE2).mono fun _ e => .inl e).trans hE3⟩
      · skip
        refine V_skipk [0, 1] (by simp only [proj, lk, reduceIte, Nat.reduceEqDiff]; rfl) ?_
        refine hK15 _ _ ?_; clear hK15
        refine V_sr T.mix (by kernel_rfl) (fun K18 hK18 => ?_)
        refine S_mv rfl ?_
        refine S_mv rfl ?_
        refine S_mv rfl ?_
        refine S_capl T.el32 rfl ?_
        refine S_sl rfl rfl rfl (sliceV_full T.el32 (fun e => by subst e; exact hI.none0.1)) ?_
        refine S_nc rfl ?_
        first | refine S_fa0 T.f35_6 rfl ?_ | refine S_fa T.f35_6 rfl ?_
        refine S_st T.sz32 rfl rfl rfl rfl (by simp (disch := omega) only [hdok]) ?_
        generalize hh : putH _ _ _ = h3
        have dd3 : B h3 U (dcs { s with pin := false, na := s.na + 1, st := ups s.st 4 (a, ys.length) }) 35 := by rw [← hh]; exact (dd2.put 9 _).cong (by simp [dcs, ups])
        have hE3 : Ext (fun b => b = U) h2 h3 := by rw [← hh]; exact Ext.put _ _ rfl
        clear hh
        have hI3 := hI2.ext hE3 (fun b e => haU b e)
        refine S_nil (hK18 _ _ (V_keep [0] (by simp only [proj, lk, reduceIte, Nat.reduceEqDiff]; rfl) ?_)); clear hK18
        refine V_sr T.mix (by kernel_rfl) (fun K19 hK19 => ?_)
        refine S_as rfl ?_
        refine S_nil (hK19 _ _ (V_keep [0, 6] (by simp only [proj, lk, reduceIte, Nat.reduceEqDiff]; rfl) ?_)); clear hK19
        refine V_block ?_
        refine V_loop (fun m l h' => ∃ (i : Nat) (hk : Heap), (i ≤ ys.length) ∧ (IL hk a ys.length (List.replicate i (-5151515) ++ ys.drop i)) ∧ (Ext (fun b => blkA a = some b) h3 hk) ∧ m = ys.length - i ∧ l = [(0, .pointer (some ⟨U, 0, none⟩)), (6, .int .i64 (i : Int))] ∧ hk = h') _ ⟨0, h3, Nat.zero_le _, by simpa using hI3, Ext.refl _ _, rfl, rfl, rfl⟩ ?_
        rintro m l h' ⟨i, hk, hi, hIk, hEk, rfl, rfl, rfl⟩ K20 hK20
        have hsl := stamp_len ys hi
        have ddk := dd3.ext hEk (fun e => haU U e rfl)
        try clear e0 e1 e2 e3 e4 e8 e9 e10 e11 e12 e13 e14 hdok
        obtain ⟨e0, e1, e2, e3, e4, e8, e9, e10, e11, e12, e13, e14, hdok⟩ := dq (ddk)
        simp only [ups_eq] at e9
        refine V_seq (fun K21 hK21 => ?_)
        refine V_sr T.mix (by kernel_rfl) (fun K22 hK22 => ?_)
        refine S_mv rfl ?_
        refine S_mv rfl ?_
        refine S_nc rfl ?_
        first | refine S_fa0 T.f35_6 rfl ?_ | refine S_fa T.f35_6 rfl ?_
        refine S_ldK T.ag32 rfl (fun K' hK' => ?_)
        simp (disch := omega) only [e0, e1, e2, e3, e4, e8, e9, e10, e11, e12, e13, e14, oP_some, Nat.add_zero]
        refine hK' _ ?_; clear hK' K'
        refine S_lenl T.el32 rfl ?_
        refine S_bin rfl rfl rfl ?_
        refine S_nil (hK22 _ _ (V_keep [0, 6, 74] (by simp only [proj, lk, reduceIte, Nat.reduceEqDiff]; rfl) ?_)); clear hK22
        refine V_condp rfl (fun c111 => ?_) (fun c111 => ?_)
        · skip
          obtain ⟨bb, hbb, _, _, hoo⟩ := hIk.get (by omega)
          subst hbb
          refine V_skipk [0, 6] (by simp only [proj, lk, reduceIte, Nat.reduceEqDiff]; rfl) ?_
          refine hK21 _ _ ?_; clear hK21
          refine V_seq (fun K23 hK23 => ?_)
          refine V_block ?_
          refine V_reg T.mix (by kernel_rfl) ?_
          refine S_mv rfl ?_
          refine S_nc rfl ?_
          first | refine S_fa0 T.f35_6 rfl ?_ | refine S_fa T.f35_6 rfl ?_
          refine S_ldK T.ag32 rfl (fun K' hK' => ?_)
          simp (disch := omega) only [e0, e1, e2, e3, e4, e8, e9, e10, e11, e12, e13, e14, oP_some, Nat.add_zero]
          refine hK' _ ?_; clear hK' K'
          refine S_mv rfl ?_
          first | refine S_ixn T.el32 rfl rfl (by omega) ?_ | refine S_ix1 T.el32 rfl rfl (by omega) (by omega) ?_ | refine S_ix T.el32 rfl rfl (by omega) (by omega) ?_
          refine S_st T.sz3 rfl rfl rfl rfl (by simp (disch := omega) only [hoo]) ?_
          generalize hh : putH _ _ _ = h9
          have hI9 : IL h9 (some ⟨bb, 0, none⟩) ys.length (List.replicate (i + 1) (-5151515) ++ ys.drop (i + 1)) := by rw [← hh, ← stamp_set ys (by omega)]; exact hIk.put i (-5151515)
          have hE9 : Ext (fun b => blkA (some (⟨bb, 0, none⟩ : Addr)) = some b) hk h9 := by rw [← hh]; exact Ext.put _ _ rfl
          clear hh
          refine S_nilk [0, 6] (by simp only [proj, lk, reduceIte, Nat.reduceEqDiff]; rfl) ?_
          refine hK23 _ _ ?_; clear hK23
          refine V_reg T.mix (by kernel_rfl) ?_
          refine S_mv rfl ?_
          first | refine S_add rfl rfl (by omega) (by omega) ?_ | refine S_bin rfl rfl rfl ?_
          refine S_as rfl ?_
          refine S_nilk [0, 6] (by simp only [proj, lk, reduceIte, Nat.reduceEqDiff]; rfl) ?_
          exact hK20 _ _ ⟨_, by omega, i + 1, h9, by omega, hI9, hEk.trans hE9, rfl, rfl, rfl⟩
        · skip
          have hie : i = ys.length := by omega
          have hkp : Kp hk (a, ys.length) := ⟨by have h9_ := hIk; rw [hie, List.drop_length, List.append_nil] at h9_; exact h9_, hyl⟩
          refine V_exitk [] rfl (by simp only [proj, lk, reduceIte, Nat.reduceEqDiff]; rfl) ?_
          -- end
          refine hR _ _ (ret0 rfl ?_)
          exact ⟨rfl, _, ddk, hkp, ⟨fun i => by by_cases e : i = 4; (right; simp only []; rw [e, ups_eq]); (left; simp only []; rw [ups_ne _ _ e]), by simp, Nat.le_refl _, rfl, rfl, rfl, rfl, rfl, rfl, rfl, rfl⟩, (((hE1.trans hE2).trans hE3).mono fun _ e => .inl e).trans (hEk.mono fun _ e => .inr e)⟩
set_option maxHeartbeats 1600000 in
theorem untouched_spec (h : Heap) (U : Nat) (s : DS) (dd : B h U (dcs s) 35) (kp : ∀ i, i < 7 → Kp h (s.st i)) :
    FC Try.prog 11 (#[.pointer (some ⟨U, 0, none⟩)] : Array Value) h fun rv h' => rv = .bool true ∧ h = h' := by
  try clear e0 e1 e2 e3 e4 e8 e9 e10 e11 e12 e13 e14 hdok
  obtain ⟨e0, e1, e2, e3, e4, e8, e9, e10, e11, e12, e13, e14, hdok⟩ := dq (dd)
  refine FC_of [(0, .pointer (some ⟨U, 0, none⟩))] Try.func11 rfl Try.ntmps11 (by simp) rfl (fun R hR => ?_)
  refine V_sr T.mix (by kernel_rfl) (fun K1 hK1 => ?_)
  refine S_as rfl ?_
  refine S_nil (hK1 _ _ (V_keep [0] (by simp only [proj, lk, reduceIte, Nat.reduceEqDiff]; rfl) ?_)); clear hK1
  refine V_seq (fun K2 hK2 => ?_)
  refine V_sr T.mix (by kernel_rfl) (fun K3 hK3 => ?_)
  refine S_as rfl ?_
  refine S_nil (hK3 _ _ (V_keep [0, 3] (by simp only [proj, lk, reduceIte, Nat.reduceEqDiff]; rfl) ?_)); clear hK3
  refine V_block ?_
  refine V_loop (fun m l h' => ∃ (i : Nat), (i ≤ 4) ∧ m = 4 - i ∧ l = [(0, .pointer (some ⟨U, 0, none⟩)), (3, .int .i64 (i : Int))] ∧ h = h') _ ⟨0, by omega, rfl, rfl, rfl⟩ ?_
  rintro m l h' ⟨i, hi, rfl, rfl, rfl⟩ K4 hK4
  refine V_seq (fun K5 hK5 => ?_)
  refine V_sr T.mix (by kernel_rfl) (fun K6 hK6 => ?_)
  refine S_mv rfl ?_
  refine S_bin rfl rfl rfl ?_
  refine S_nil (hK6 _ _ (V_keep [0, 3, 9] (by simp only [proj, lk, reduceIte, Nat.reduceEqDiff]; rfl) ?_)); clear hK6
  refine V_condp rfl (fun c52 => ?_) (fun c52 => ?_)
  · skip
    refine V_skipk [0, 3] (by simp only [proj, lk, reduceIte, Nat.reduceEqDiff]; rfl) ?_
    refine hK5 _ _ ?_; clear hK5
    refine V_seq (fun K7 hK7 => ?_)
    refine V_block ?_
    refine V_sr T.mix (by kernel_rfl) (fun K8 hK8 => ?_)
    refine S_as rfl ?_
    refine S_nil (hK8 _ _ (V_keep [0, 3, 4] (by simp only [proj, lk, reduceIte, Nat.reduceEqDiff]; rfl) ?_)); clear hK8
    refine V_block ?_
    refine V_loop (fun m l h' => ∃ (j : Nat), (j ≤ (s.st i).2) ∧ m = (s.st i).2 - j ∧ l = [(0, .pointer (some ⟨U, 0, none⟩)), (3, .int .i64 (i : Int)), (4, .int .i64 (j : Int))] ∧ h = h') _ ⟨0, Nat.zero_le _, rfl, rfl, rfl⟩ ?_
    rintro m l h' ⟨j, hj, rfl, rfl, rfl⟩ K9 hK9
    have hkb := (kp i (by omega)).2
    refine V_seq (fun K10 hK10 => ?_)
    refine V_sr T.mix (by kernel_rfl) (fun K11 hK11 => ?_)
    refine S_mv rfl ?_
    refine S_mv rfl ?_
    refine S_mv rfl ?_
    refine S_nc rfl ?_
    first | refine S_fa0 T.f35_4 rfl ?_ | refine S_fa T.f35_4 rfl ?_
    first | refine S_ixan T.ar33 rfl rfl (by omega) ?_ | refine S_ixa1 T.ar33 rfl rfl (by omega) (by omega) ?_
    refine S_ldK T.ag32 rfl (fun K' hK' => ?_)
    simp (disch := omega) only [e0, e1, e2, e3, e4, e8, e9, e10, e11, e12, e13, e14, oP_some, Nat.add_zero]
    refine hK' _ ?_; clear hK' K'
    refine S_lenl T.el32 rfl ?_
    refine S_bin rfl rfl rfl ?_
    refine S_nil (hK11 _ _ (V_keep [0, 3, 4, 20] (by simp only [proj, lk, reduceIte, Nat.reduceEqDiff]; rfl) ?_)); clear hK11
    refine V_condp rfl (fun c53 => ?_) (fun c53 => ?_)
    · skip
      obtain ⟨bb, hbb, hat⟩ := (kp i (by omega)).some (by omega)
      refine V_skipk [0, 3, 4] (by simp only [proj, lk, reduceIte, Nat.reduceEqDiff]; rfl) ?_
      refine hK10 _ _ ?_; clear hK10
      refine V_seq (fun K12 hK12 => ?_)
      refine V_block ?_
      refine V_sr T.mix (by kernel_rfl) (fun K13 hK13 => ?_)
      refine S_mv rfl ?_
      refine S_mv rfl ?_
      refine S_nc rfl ?_
      first | refine S_fa0 T.f35_4 rfl ?_ | refine S_fa T.f35_4 rfl ?_
      first | refine S_ixan T.ar33 rfl rfl (by omega) ?_ | refine S_ixa1 T.ar33 rfl rfl (by omega) (by omega) ?_
      refine S_ldK T.ag32 rfl (fun K' hK' => ?_)
      simp (disch := omega) only [e4, hat, oP_some, Nat.add_zero]
      refine hK' _ ?_; clear hK' K'
      refine S_mv rfl ?_
      rw [hbb]
      refine S_ixn T.el32 rfl rfl (by omega) ?_
      refine S_ldK T.ag3 rfl (fun K' hK' => ?_)
      simp (disch := omega) only [e4, hat, oP_some, Nat.add_zero]
      refine hK' _ ?_; clear hK' K'
      refine S_bin rfl rfl rfl ?_
      refine S_nil (hK13 _ _ (V_keep [0, 3, 4, 32] (by simp only [proj, lk, reduceIte, Nat.reduceEqDiff]; rfl) ?_)); clear hK13
      refine V_condp rfl (fun c54 => ?_) (fun c54 => ?_)
      · skip
        exfalso; exact c54 rfl
      · skip
        refine V_skipk [0, 3, 4] (by simp only [proj, lk, reduceIte, Nat.reduceEqDiff]; rfl) ?_
        refine hK12 _ _ ?_; clear hK12
        refine V_reg T.mix (by kernel_rfl) ?_
        refine S_mv rfl ?_
        first | refine S_add rfl rfl (by omega) (by omega) ?_ | refine S_bin rfl rfl rfl ?_
        refine S_as rfl ?_
        refine S_nilk [0, 3, 4] (by simp only [proj, lk, reduceIte, Nat.reduceEqDiff]; rfl) ?_
        exact hK9 _ _ ⟨_, by omega, j + 1, by omega, rfl, rfl, rfl⟩
    · skip
      refine V_exitk [0, 3] rfl (by simp only [proj, lk, reduceIte, Nat.reduceEqDiff]; rfl) ?_
      refine hK7 _ _ ?_; clear hK7
      refine V_reg T.mix (by kernel_rfl) ?_
      refine S_mv rfl ?_
      first | refine S_add rfl rfl (by omega) (by omega) ?_ | refine S_bin rfl rfl rfl ?_
      refine S_as rfl ?_
      refine S_nilk [0, 3] (by simp only [proj, lk, reduceIte, Nat.reduceEqDiff]; rfl) ?_
      exact hK4 _ _ ⟨_, by omega, i + 1, by omega, rfl, rfl, rfl⟩
  · skip
    refine V_exitk [0] rfl (by simp only [proj, lk, reduceIte, Nat.reduceEqDiff]; rfl) ?_
    refine hK2 _ _ ?_; clear hK2
    refine V_seq (fun K14 hK14 => ?_)
    refine V_sr T.mix (by kernel_rfl) (fun K15 hK15 => ?_)
    refine S_as rfl ?_
    refine S_nil (hK15 _ _ (V_keep [0, 5] (by simp only [proj, lk, reduceIte, Nat.reduceEqDiff]; rfl) ?_)); clear hK15
    refine V_block ?_
    refine V_loop (fun m l h' => ∃ (j : Nat), (j ≤ (s.st 4).2) ∧ m = (s.st 4).2 - j ∧ l = [(0, .pointer (some ⟨U, 0, none⟩)), (5, .int .i64 (j : Int))] ∧ h = h') _ ⟨0, Nat.zero_le _, rfl, rfl, rfl⟩ ?_
    rintro m l h' ⟨j, hj, rfl, rfl, rfl⟩ K16 hK16
    have hkb := (kp 4 (by omega)).2
    refine V_seq (fun K17 hK17 => ?_)
    refine V_sr T.mix (by kernel_rfl) (fun K18 hK18 => ?_)
    refine S_mv rfl ?_
    refine S_mv rfl ?_
    refine S_nc rfl ?_
    first | refine S_fa0 T.f35_6 rfl ?_ | refine S_fa T.f35_6 rfl ?_
    refine S_ldK T.ag32 rfl (fun K' hK' => ?_)
    simp (disch := omega) only [e0, e1, e2, e3, e4, e8, e9, e10, e11, e12, e13, e14, oP_some, Nat.add_zero]
    refine hK' _ ?_; clear hK' K'
    refine S_lenl T.el32 rfl ?_
    refine S_bin rfl rfl rfl ?_
    refine S_nil (hK18 _ _ (V_keep [0, 5, 39] (by simp only [proj, lk, reduceIte, Nat.reduceEqDiff]; rfl) ?_)); clear hK18
    refine V_condp rfl (fun c59 => ?_) (fun c59 => ?_)
    · skip
      obtain ⟨bb, hbb, hat⟩ := (kp 4 (by omega)).some (by omega)
      refine V_skipk [0, 5] (by simp only [proj, lk, reduceIte, Nat.reduceEqDiff]; rfl) ?_
      refine hK17 _ _ ?_; clear hK17
      refine V_seq (fun K19 hK19 => ?_)
      refine V_block ?_
      refine V_sr T.mix (by kernel_rfl) (fun K20 hK20 => ?_)
      refine S_mv rfl ?_
      refine S_nc rfl ?_
      first | refine S_fa0 T.f35_6 rfl ?_ | refine S_fa T.f35_6 rfl ?_
      refine S_ldK T.ag32 rfl (fun K' hK' => ?_)
      simp (disch := omega) only [e9, hat, oP_some, Nat.add_zero]
      refine hK' _ ?_; clear hK' K'
      refine S_mv rfl ?_
      rw [hbb]
      refine S_ixn T.el32 rfl rfl (by omega) ?_
      refine S_ldK T.ag3 rfl (fun K' hK' => ?_)
      simp (disch := omega) only [e9, hat, oP_some, Nat.add_zero]
      refine hK' _ ?_; clear hK' K'
      refine S_bin rfl rfl rfl ?_
      refine S_nil (hK20 _ _ (V_keep [0, 5, 49] (by simp only [proj, lk, reduceIte, Nat.reduceEqDiff]; rfl) ?_)); clear hK20
      refine V_condp rfl (fun c60 => ?_) (fun c60 => ?_)
      · skip
        exfalso; exact c60 rfl
      · skip
        refine V_skipk [0, 5] (by simp only [proj, lk, reduceIte, Nat.reduceEqDiff]; rfl) ?_
        refine hK19 _ _ ?_; clear hK19
        refine V_reg T.mix (by kernel_rfl) ?_
        refine S_mv rfl ?_
        first | refine S_add rfl rfl (by omega) (by omega) ?_ | refine S_bin rfl rfl rfl ?_
        refine S_as rfl ?_
        refine S_nilk [0, 5] (by simp only [proj, lk, reduceIte, Nat.reduceEqDiff]; rfl) ?_
        exact hK16 _ _ ⟨_, by omega, j + 1, by omega, rfl, rfl, rfl⟩
    · skip
      refine V_exitk [0] rfl (by simp only [proj, lk, reduceIte, Nat.reduceEqDiff]; rfl) ?_
      refine hK14 _ _ ?_; clear hK14
      refine V_seq (fun K21 hK21 => ?_)
      refine V_sr T.mix (by kernel_rfl) (fun K22 hK22 => ?_)
      refine S_as rfl ?_
      refine S_nil (hK22 _ _ (V_keep [0, 6] (by simp only [proj, lk, reduceIte, Nat.reduceEqDiff]; rfl) ?_)); clear hK22
      refine V_block ?_
      refine V_loop (fun m l h' => ∃ (j : Nat), (j ≤ (s.st 5).2) ∧ m = (s.st 5).2 - j ∧ l = [(0, .pointer (some ⟨U, 0, none⟩)), (6, .int .i64 (j : Int))] ∧ h = h') _ ⟨0, Nat.zero_le _, rfl, rfl, rfl⟩ ?_
      rintro m l h' ⟨j, hj, rfl, rfl, rfl⟩ K23 hK23
      have hkb := (kp 5 (by omega)).2
      refine V_seq (fun K24 hK24 => ?_)
      refine V_sr T.mix (by kernel_rfl) (fun K25 hK25 => ?_)
      refine S_mv rfl ?_
      refine S_mv rfl ?_
      refine S_nc rfl ?_
      first | refine S_fa0 T.f35_9 rfl ?_ | refine S_fa T.f35_9 rfl ?_
      refine S_ldK T.ag32 rfl (fun K' hK' => ?_)
      simp (disch := omega) only [e0, e1, e2, e3, e4, e8, e9, e10, e11, e12, e13, e14, oP_some, Nat.add_zero]
      refine hK' _ ?_; clear hK' K'
      refine S_lenl T.el32 rfl ?_
      refine S_bin rfl rfl rfl ?_
      refine S_nil (hK25 _ _ (V_keep [0, 6, 56] (by simp only [proj, lk, reduceIte, Nat.reduceEqDiff]; rfl) ?_)); clear hK25
      refine V_condp rfl (fun c64 => ?_) (fun c64 => ?_)
      · skip
        obtain ⟨bb, hbb, hat⟩ := (kp 5 (by omega)).some (by omega)
        refine V_skipk [0, 6] (by simp only [proj, lk, reduceIte, Nat.reduceEqDiff]; rfl) ?_
        refine hK24 _ _ ?_; clear hK24
        refine V_seq (fun K26 hK26 => ?_)
        refine V_block ?_
        refine V_sr T.mix (by kernel_rfl) (fun K27 hK27 => ?_)
        refine S_mv rfl ?_
        refine S_nc rfl ?_
        first | refine S_fa0 T.f35_9 rfl ?_ | refine S_fa T.f35_9 rfl ?_
        refine S_ldK T.ag32 rfl (fun K' hK' => ?_)
        simp (disch := omega) only [e12, hat, oP_some, Nat.add_zero]
        refine hK' _ ?_; clear hK' K'
        refine S_mv rfl ?_
        rw [hbb]
        refine S_ixn T.el32 rfl rfl (by omega) ?_
        refine S_ldK T.ag3 rfl (fun K' hK' => ?_)
        simp (disch := omega) only [e12, hat, oP_some, Nat.add_zero]
        refine hK' _ ?_; clear hK' K'
        refine S_bin rfl rfl rfl ?_
        refine S_nil (hK27 _ _ (V_keep [0, 6, 66] (by simp only [proj, lk, reduceIte, Nat.reduceEqDiff]; rfl) ?_)); clear hK27
        refine V_condp rfl (fun c65 => ?_) (fun c65 => ?_)
        · skip
          exfalso; exact c65 rfl
        · skip
          refine V_skipk [0, 6] (by simp only [proj, lk, reduceIte, Nat.reduceEqDiff]; rfl) ?_
          refine hK26 _ _ ?_; clear hK26
          refine V_reg T.mix (by kernel_rfl) ?_
          refine S_mv rfl ?_
          first | refine S_add rfl rfl (by omega) (by omega) ?_ | refine S_bin rfl rfl rfl ?_
          refine S_as rfl ?_
          refine S_nilk [0, 6] (by simp only [proj, lk, reduceIte, Nat.reduceEqDiff]; rfl) ?_
          exact hK23 _ _ ⟨_, by omega, j + 1, by omega, rfl, rfl, rfl⟩
      · skip
        refine V_exitk [0] rfl (by simp only [proj, lk, reduceIte, Nat.reduceEqDiff]; rfl) ?_
        refine hK21 _ _ ?_; clear hK21
        refine V_seq (fun K28 hK28 => ?_)
        refine V_sr T.mix (by kernel_rfl) (fun K29 hK29 => ?_)
        refine S_as rfl ?_
        refine S_nil (hK29 _ _ (V_keep [0, 7] (by simp only [proj, lk, reduceIte, Nat.reduceEqDiff]; rfl) ?_)); clear hK29
        refine V_block ?_
        refine V_loop (fun m l h' => ∃ (j : Nat), (j ≤ (s.st 6).2) ∧ m = (s.st 6).2 - j ∧ l = [(0, .pointer (some ⟨U, 0, none⟩)), (7, .int .i64 (j : Int))] ∧ h = h') _ ⟨0, Nat.zero_le _, rfl, rfl, rfl⟩ ?_
        rintro m l h' ⟨j, hj, rfl, rfl, rfl⟩ K30 hK30
        have hkb := (kp 6 (by omega)).2
        refine V_seq (fun K31 hK31 => ?_)
        refine V_sr T.mix (by kernel_rfl) (fun K32 hK32 => ?_)
        refine S_mv rfl ?_
        refine S_mv rfl ?_
        refine S_nc rfl ?_
        first | refine S_fa0 T.f35_11 rfl ?_ | refine S_fa T.f35_11 rfl ?_
        refine S_ldK T.ag32 rfl (fun K' hK' => ?_)
        simp (disch := omega) only [e0, e1, e2, e3, e4, e8, e9, e10, e11, e12, e13, e14, oP_some, Nat.add_zero]
        refine hK' _ ?_; clear hK' K'
        refine S_lenl T.el32 rfl ?_
        refine S_bin rfl rfl rfl ?_
        refine S_nil (hK32 _ _ (V_keep [0, 7, 73] (by simp only [proj, lk, reduceIte, Nat.reduceEqDiff]; rfl) ?_)); clear hK32
        refine V_condp rfl (fun c69 => ?_) (fun c69 => ?_)
        · skip
          obtain ⟨bb, hbb, hat⟩ := (kp 6 (by omega)).some (by omega)
          refine V_skipk [0, 7] (by simp only [proj, lk, reduceIte, Nat.reduceEqDiff]; rfl) ?_
          refine hK31 _ _ ?_; clear hK31
          refine V_seq (fun K33 hK33 => ?_)
          refine V_block ?_
          refine V_sr T.mix (by kernel_rfl) (fun K34 hK34 => ?_)
          refine S_mv rfl ?_
          refine S_nc rfl ?_
          first | refine S_fa0 T.f35_11 rfl ?_ | refine S_fa T.f35_11 rfl ?_
          refine S_ldK T.ag32 rfl (fun K' hK' => ?_)
          simp (disch := omega) only [e14, hat, oP_some, Nat.add_zero]
          refine hK' _ ?_; clear hK' K'
          refine S_mv rfl ?_
          rw [hbb]
          refine S_ixn T.el32 rfl rfl (by omega) ?_
          refine S_ldK T.ag3 rfl (fun K' hK' => ?_)
          simp (disch := omega) only [e14, hat, oP_some, Nat.add_zero]
          refine hK' _ ?_; clear hK' K'
          refine S_bin rfl rfl rfl ?_
          refine S_nil (hK34 _ _ (V_keep [0, 7, 83] (by simp only [proj, lk, reduceIte, Nat.reduceEqDiff]; rfl) ?_)); clear hK34
          refine V_condp rfl (fun c70 => ?_) (fun c70 => ?_)
          · skip
            exfalso; exact c70 rfl
          · skip
            refine V_skipk [0, 7] (by simp only [proj, lk, reduceIte, Nat.reduceEqDiff]; rfl) ?_
            refine hK33 _ _ ?_; clear hK33
            refine V_reg T.mix (by kernel_rfl) ?_
            refine S_mv rfl ?_
            first | refine S_add rfl rfl (by omega) (by omega) ?_ | refine S_bin rfl rfl rfl ?_
            refine S_as rfl ?_
            refine S_nilk [0, 7] (by simp only [proj, lk, reduceIte, Nat.reduceEqDiff]; rfl) ?_
            exact hK30 _ _ ⟨_, by omega, j + 1, by omega, rfl, rfl, rfl⟩
        · skip
          refine V_exitk [] rfl (by simp only [proj, lk, reduceIte, Nat.reduceEqDiff]; rfl) ?_
          refine hK28 _ _ ?_; clear hK28
          refine V_sr T.mix (by kernel_rfl) (fun K35 hK35 => ?_)
          refine S_as rfl ?_
          refine S_nil (hK35 _ _ (V_keep [2] (by simp only [proj, lk, reduceIte, Nat.reduceEqDiff]; rfl) ?_)); clear hK35
          refine V_ret ?_
          refine hR _ _ (ret1 rfl rfl ?_)
          exact ⟨rfl, rfl⟩
set_option maxHeartbeats 1600000 in
theorem again_spec (h : Heap) (U : Nat) (s : DS) (dd : B h U (dcs s) 35) (kp : ∀ i, i < 7 → Kp h (s.st i)) (hx : IL h s.xa s.xl.length s.xl) (hm_ : IL h s.ma s.xl.length s.xl) (hxU : ∀ b, blkA s.xa = some b → b ≠ U) (hxl : s.xl.length ≤ 1000) (hn : s.n ≤ 900000000000000) (hna : s.na ≤ 900000000000000) :
    FC Try.prog 24 (#[.pointer (some ⟨U, 0, none⟩)] : Array Value) h fun rv h' => rv = .bool true ∧ ∃ s', B h' U (dcs s') 35 ∧ Kp h' (s.xa, s.xl.length) ∧ (∀ i, s'.st i = s.st i ∨ s'.st i = (s.xa, s.xl.length)) ∧ s'.n ≤ s.n + 1 ∧ s'.na ≤ s.na + 1 ∧ (s'.ra = s.ra ∧ s'.rc = s.rc ∧ s'.rg = s.rg ∧ s'.ta = s.ta ∧ s'.lt = s.lt ∧ s'.xa = none ∧ s'.xl = [] ∧ s'.ma = none) ∧ Ext (fun b => b = U ∨ blkA s.xa = some b) h h' := by
  try clear e0 e1 e2 e3 e4 e8 e9 e10 e11 e12 e13 e14 hdok
  obtain ⟨e0, e1, e2, e3, e4, e8, e9, e10, e11, e12, e13, e14, hdok⟩ := dq (dd)
  refine FC_of [(0, .pointer (some ⟨U, 0, none⟩))] Try.func24 rfl Try.ntmps24 (by simp) rfl (fun R hR => ?_)
  refine V_sr T.mix (by kernel_rfl) (fun K1 hK1 => ?_)
  refine S_as rfl ?_
  refine S_nil (hK1 _ _ (V_keep [0] (by simp only [proj, lk, reduceIte, Nat.reduceEqDiff]; rfl) ?_)); clear hK1
  refine V_seq (fun K2 hK2 => ?_)
  refine V_sr T.mix (by kernel_rfl) (fun K3 hK3 => ?_)
  refine S_mv rfl ?_
  refine S_call T.hb11 rfl ?_
  refine FC.mono (untouched_spec h U s dd kp) ?_
  rintro v' h' ⟨rfl, rfl⟩
  refine S_notb rfl ?_
  refine S_nil (hK3 _ _ (V_keep [0, 5] (by simp only [proj, lk, reduceIte, Nat.reduceEqDiff]; rfl) ?_)); clear hK3
  refine V_condb rfl (fun c130 => ?_) (fun c130 => ?_)
  · skip
    cases c130
  · skip
    refine V_skipk [0] (by simp only [proj, lk, reduceIte, Nat.reduceEqDiff]; rfl) ?_
    refine hK2 _ _ ?_; clear hK2
    refine V_seq (fun K4 hK4 => ?_)
    refine V_sr T.mix (by kernel_rfl) (fun K5 hK5 => ?_)
    refine S_mv rfl ?_
    refine S_nc rfl ?_
    first | refine S_fa0 T.f35_2 rfl ?_ | refine S_fa T.f35_2 rfl ?_
    refine S_ldK T.ag32 rfl (fun K' hK' => ?_)
    simp (disch := omega) only [e0, e1, e2, e3, e4, e8, e9, e10, e11, e12, e13, e14, oP_some, Nat.add_zero]
    refine hK' _ ?_; clear hK' K'
    refine S_mv rfl ?_
    refine S_nc rfl ?_
    first | refine S_fa0 T.f35_3 rfl ?_ | refine S_fa T.f35_3 rfl ?_
    refine S_ldK T.ag32 rfl (fun K' hK' => ?_)
    simp (disch := omega) only [e0, e1, e2, e3, e4, e8, e9, e10, e11, e12, e13, e14, oP_some, Nat.add_zero]
    refine hK' _ ?_; clear hK' K'
    refine S_call T.hb36 rfl ?_
    refine FC.mono (sameints_spec h s.xa s.ma _ _ s.xl s.xl hx hm_ (by omega) (by omega)) ?_
    rintro v' h' ⟨rfl, rfl⟩
    refine S_notb rfl ?_
    refine S_nil (hK5 _ _ (V_keep [0, 15] (by simp only [proj, lk, reduceIte, Nat.reduceEqDiff]; rfl) ?_)); clear hK5
    refine V_condb rfl (fun c133 => ?_) (fun c133 => ?_)
    · skip
      exfalso; simp at c133
    · skip
      refine V_skipk [0] (by simp only [proj, lk, reduceIte, Nat.reduceEqDiff]; rfl) ?_
      refine hK4 _ _ ?_; clear hK4
      refine V_sr T.mix (by kernel_rfl) (fun K6 hK6 => ?_)
      refine S_mv rfl ?_
      refine S_mv rfl ?_
      refine S_nc rfl ?_
      first | refine S_fa0 T.f35_2 rfl ?_ | refine S_fa T.f35_2 rfl ?_
      refine S_ldK T.ag32 rfl (fun K' hK' => ?_)
      simp (disch := omega) only [e0, e1, e2, e3, e4, e8, e9, e10, e11, e12, e13, e14, oP_some, Nat.add_zero]
      refine hK' _ ?_; clear hK' K'
      refine S_call T.hb43 rfl ?_
      refine FC.mono (hold_spec h U s dd s.xa s.xl.length s.xl hx hxU hxl hn hna) ?_
      rintro v' h1 ⟨rfl, s1, dd1, kp1, dr1, hE1⟩
      obtain ⟨o1, o2, o3, o4, o5, o6, o7, o8⟩ := dr1.o
      try clear e0 e1 e2 e3 e4 e8 e9 e10 e11 e12 e13 e14 hdok
      obtain ⟨e0, e1, e2, e3, e4, e8, e9, e10, e11, e12, e13, e14, hdok⟩ := dq (dd1)
      refine S_nil (hK6 _ _ (V_keep [0] (by simp only [proj, lk, reduceIte, Nat.reduceEqDiff]; rfl) ?_)); clear hK6
      refine V_sr T.mix (by kernel_rfl) (fun K7 hK7 => ?_)
      refine S_mv rfl ?_
      refine S_nc rfl ?_
      first | refine S_fa0 T.f35_2 rfl ?_ | refine S_fa T.f35_2 rfl ?_
      refine S_st T.sz32 rfl rfl rfl rfl (by simp (disch := omega) only [hdok]) ?_
      generalize hh : putH _ _ _ = h2
      have hE2 : Ext (fun b => b = U) h1 h2 := by rw [← hh]; exact Ext.put _ _ rfl
      have dd2 := dd1.put 2 (.slice none 0 0)
      rw [hh] at dd2
      clear hh
      have hdok : ∀ j, j < 15 → okPut h2 ⟨U, j, none⟩ = true := fun j hj => dd2.ok (by simpa [dcs] using hj)
      refine S_nil (hK7 _ _ (V_keep [0] (by simp only [proj, lk, reduceIte, Nat.reduceEqDiff]; rfl) ?_)); clear hK7
      refine V_sr T.mix (by kernel_rfl) (fun K8 hK8 => ?_)
      refine S_mv rfl ?_
      refine S_nc rfl ?_
      first | refine S_fa0 T.f35_3 rfl ?_ | refine S_fa T.f35_3 rfl ?_
      refine S_st T.sz32 rfl rfl rfl rfl (by simp (disch := omega) only [hdok]) ?_
      generalize hh : putH _ _ _ = h3
      have hE3 : Ext (fun b => b = U) h2 h3 := by rw [← hh]; exact Ext.put _ _ rfl
      have dd3 : B h3 U (dcs { s1 with xa := none, xl := [], ma := none }) 35 := by rw [← hh]; exact (dd2.put 3 _).cong (by simp [dcs])
      clear hh
      refine S_nil (hK8 _ _ (V_keep [] (by simp only [proj, lk, reduceIte, Nat.reduceEqDiff]; rfl) ?_)); clear hK8
      refine V_sr T.mix (by kernel_rfl) (fun K9 hK9 => ?_)
      refine S_as rfl ?_
      refine S_nil (hK9 _ _ (V_keep [2] (by simp only [proj, lk, reduceIte, Nat.reduceEqDiff]; rfl) ?_)); clear hK9
      refine V_ret ?_
      refine hR _ _ (ret1 rfl rfl ?_)
      exact ⟨rfl, _, dd3, kp1.ext (hE2.trans hE3) (fun b e => hxU b e), dr1.st, dr1.n, dr1.na, ⟨o1, o2, o3, o4, o5, rfl, rfl, rfl⟩, hE1.trans ((hE2.trans hE3).mono fun _ e => .inl e)⟩
set_option maxHeartbeats 1600000 in
theorem lend_spec (h : Heap) (a : Option Addr) (cap : Nat) (xs : List Int) (ho : IL h a cap xs) (hl : xs.length ≤ 1000) :
    FC Try.prog 32 (#[.slice a xs.length cap] : Array Value) h fun rv h' => rv = .slice (some ⟨h.size, 0, none⟩) xs.length (xs.length + 4) ∧ BL h' h.size (xs ++ List.replicate 4 (-5151515)) ∧ h.size < h'.size ∧ Ext (fun _ => False) h h' := by
  refine FC_of [(0, .slice a xs.length cap)] Try.func32 rfl Try.ntmps32 (by simp) rfl (fun R hR => ?_)
  refine V_sr T.mix (by kernel_rfl) (fun K1 hK1 => ?_)
  refine S_as rfl ?_
  refine S_nil (hK1 _ _ (V_keep [0] (by simp only [proj, lk, reduceIte, Nat.reduceEqDiff]; rfl) ?_)); clear hK1
  refine V_sr T.mix (by kernel_rfl) (fun K2 hK2 => ?_)
  refine S_mv rfl ?_
  refine S_lenl T.el32 rfl ?_
  first | refine S_add rfl rfl (by omega) (by omega) ?_ | refine S_bin rfl rfl rfl ?_
  refine S_mk T.ei32 rfl rfl (by omega) (by omega) (by omega) (by omega) ?_
  rw [show ((xs.length : Int) + 4).toNat = xs.length + 4 by omega, Nat.mul_one, mkZ_one]
  generalize hh : Array.push h _ = h1
  have hB1 : B h1 h.size (arr (xs.length + 4) fun _ => .int .i64 0) 3 := by rw [← hh]; exact B.new _ _ _
  have hE1 : Ext (fun _ => False) h h1 := by rw [← hh]; exact Ext.push _ _ _
  have ho1 := ho.ext hE1 (fun _ _ f => f)
  clear hh
  refine S_as rfl ?_
  refine S_nil (hK2 _ _ (V_keep [0, 3] (by simp only [proj, lk, reduceIte, Nat.reduceEqDiff]; rfl) ?_)); clear hK2
  refine V_sr T.mix (by kernel_rfl) (fun K3 hK3 => ?_)
  refine S_mv rfl ?_
  refine S_mv rfl ?_
  refine S_copyx T.el32 rfl (k := xs.length) (by simp) (OwnR.cells ho1) hB1 (by rw [ints_len]; omega) (ints_one _) (fun h2 hB2 hE2 hz2 => ?_)
  have hC2 : B h2 h.size (iz (xs.length + 4) (fun j => if j < xs.length then xs.getD j 0 else 0)) 3 := hB2.cong (arr_ext fun j hj => by rw [ints_len]; by_cases e : j < xs.length; (simp [ints, e]); (simp [e]))
  refine S_nil (hK3 _ _ (V_keep [0, 3] (by simp only [proj, lk, reduceIte, Nat.reduceEqDiff]; rfl) ?_)); clear hK3
  refine V_seq (fun K4 hK4 => ?_)
  refine V_sr T.mix (by kernel_rfl) (fun K5 hK5 => ?_)
  refine S_mv rfl ?_
  refine S_lenl T.el32 rfl ?_
  refine S_as rfl ?_
  refine S_nil (hK5 _ _ (V_keep [0, 3, 4] (by simp only [proj, lk, reduceIte, Nat.reduceEqDiff]; rfl) ?_)); clear hK5
  refine V_block ?_
  refine V_loop (fun m l h' => ∃ (i : Nat) (hk : Heap) (A : Nat → Int), (xs.length ≤ i) ∧ (i ≤ xs.length + 4) ∧ (B hk h.size (iz (xs.length + 4) A) 3) ∧ (∀ j, j < xs.length → A j = xs.getD j 0) ∧ (∀ j, xs.length ≤ j → j < i → A j = -5151515) ∧ (Ext (fun b => b = h.size) h1 hk) ∧ m = xs.length + 4 - i ∧ l = [(0, .slice a xs.length cap), (3, .slice (some ⟨h.size, 0, none⟩) (xs.length + 4) (xs.length + 4)), (4, .int .i64 (i : Int))] ∧ hk = h') _ ⟨xs.length, h2, _, Nat.le_refl _, by omega, hC2, fun j hj => if_pos hj, fun j h1_ h2_ => by omega, hE2, rfl, rfl, rfl⟩ ?_
  rintro m l h' ⟨i, hk, A, hi1, hi, hC, hA1, hA2, hEk, rfl, rfl, rfl⟩ K6 hK6
  have hoo := iz_ok hC
  refine V_seq (fun K7 hK7 => ?_)
  refine V_sr T.mix (by kernel_rfl) (fun K8 hK8 => ?_)
  refine S_mv rfl ?_
  refine S_mv rfl ?_
  refine S_lenl T.el32 rfl ?_
  refine S_bin rfl rfl rfl ?_
  refine S_nil (hK8 _ _ (V_keep [0, 3, 4, 17] (by simp only [proj, lk, reduceIte, Nat.reduceEqDiff]; rfl) ?_)); clear hK8
  refine V_condp rfl (fun c149 => ?_) (fun c149 => ?_)
  · skip
    refine V_skipk [0, 3, 4] (by simp only [proj, lk, reduceIte, Nat.reduceEqDiff]; rfl) ?_
    refine hK7 _ _ ?_; clear hK7
    refine V_seq (fun K9 hK9 => ?_)
    refine V_block ?_
    refine V_reg T.mix (by kernel_rfl) ?_
    refine S_mv rfl ?_
    refine S_mv rfl ?_
    first | refine S_ixn T.el32 rfl rfl (by omega) ?_ | refine S_ix1 T.el32 rfl rfl (by omega) (by omega) ?_ | refine S_ix T.el32 rfl rfl (by omega) (by omega) ?_
    refine S_st T.sz3 rfl rfl rfl rfl (by simp (disch := omega) only [hoo]) ?_
    generalize hh : putH _ _ _ = h3
    have hC3 : B h3 h.size (iz (xs.length + 4) (ups A i (-5151515))) 3 := by rw [← hh]; exact iz_put hC i (-5151515)
    have hE3 : Ext (fun b => b = h.size) hk h3 := by rw [← hh]; exact Ext.put _ _ rfl
    clear hh
    refine S_nilk [0, 3, 4] (by simp only [proj, lk, reduceIte, Nat.reduceEqDiff]; rfl) ?_
    refine hK9 _ _ ?_; clear hK9
    refine V_reg T.mix (by kernel_rfl) ?_
    refine S_mv rfl ?_
    first | refine S_add rfl rfl (by omega) (by omega) ?_ | refine S_bin rfl rfl rfl ?_
    refine S_as rfl ?_
    refine S_nilk [0, 3, 4] (by simp only [proj, lk, reduceIte, Nat.reduceEqDiff]; rfl) ?_
    exact hK6 _ _ ⟨_, by omega, i + 1, h3, ups A i (-5151515), by omega, by omega, hC3, fun j hj => by rw [ups_ne _ _ (by omega)]; exact hA1 j hj, fun j h1_ h2_ => by by_cases e : j = i; (rw [e, ups_eq]); (rw [ups_ne _ _ e]; exact hA2 j h1_ (by omega)), hEk.trans hE3, rfl, rfl, rfl⟩
  · skip
    refine V_exitk [0, 3] rfl (by simp only [proj, lk, reduceIte, Nat.reduceEqDiff]; rfl) ?_
    refine hK4 _ _ ?_; clear hK4
    refine V_sr T.mix (by kernel_rfl) (fun K10 hK10 => ?_)
    refine S_mv rfl ?_
    refine S_mv rfl ?_
    refine S_lenl T.el32 rfl ?_
    refine S_sl rfl rfl rfl (sliceV_hi T.el32 (by omega) (by omega)) ?_
    rw [Int.toNat_natCast]
    refine S_as rfl ?_
    refine S_nil (hK10 _ _ (V_keep [2] (by simp only [proj, lk, reduceIte, Nat.reduceEqDiff]; rfl) ?_)); clear hK10
    refine V_ret ?_
    refine hR _ _ (ret1 rfl rfl ?_)
    have hBL : BL hk h.size (xs ++ List.replicate 4 (-5151515)) := hC.cong (by rw [List.length_append, List.length_replicate]; exact arr_ext fun j hj => by congr 1; rcases Nat.lt_or_ge j xs.length with q | q; (rw [hA1 j q, List.getD_eq_getElem?_getD, List.getD_eq_getElem?_getD, List.getElem?_append_left q]); (rw [hA2 j q (by omega), List.getD_eq_getElem?_getD, List.getElem?_append_right q, List.getElem?_replicate, if_pos (by omega)]; rfl))
    exact ⟨rfl, hBL, hBL.lt, hE1.step hEk (fun b hb e => by omega)⟩
set_option maxHeartbeats 400000 in
theorem unread_spec (h : Heap) (b : Nat) (xs : List Int) (hb : BL h b (xs ++ List.replicate 4 (-5151515))) (la : Option Addr) (lc : Nat) (hl : IL h la lc xs) (hxl : xs.length ≤ 1000) :
    FC Try.prog 37 (#[.slice (some ⟨b, 0, none⟩) xs.length (xs.length + 4), .slice la xs.length lc] : Array Value) h fun rv h' => rv = .bool true ∧ h = h' := by
  have hI : IL h (some ⟨b, 0, none⟩) (xs.length + 4) xs := by have h9 := bl_pre hb; rw [List.length_append, List.length_replicate] at h9; exact h9
  have hat : ∀ j, xs.length ≤ j → j < xs.length + 4 → cellH h ⟨b, j, none⟩ = some (.int .i64 (-5151515)) := fun j h1_ h2_ => by rw [B.cellA hb (by rw [List.length_append, List.length_replicate]; omega)]; congr 2; rw [List.getD_eq_getElem?_getD, List.getElem?_append_right h1_, List.getElem?_replicate, if_pos (by omega)]; rfl
  refine FC_of [(0, .slice (some ⟨b, 0, none⟩) xs.length (xs.length + 4)), (1, .slice la xs.length lc)] Try.func37 rfl Try.ntmps37 (by simp) rfl (fun R hR => ?_)
  refine V_sr T.mix (by kernel_rfl) (fun K1 hK1 => ?_)
  refine S_as rfl ?_
  refine S_nil (hK1 _ _ (V_keep [0, 1] (by simp only [proj, lk, reduceIte, Nat.reduceEqDiff]; rfl) ?_)); clear hK1
  refine V_seq (fun K2 hK2 => ?_)
  refine V_sr T.mix (by kernel_rfl) (fun K3 hK3 => ?_)
  refine S_mv rfl ?_
  refine S_mv rfl ?_
  refine S_call T.hb36 rfl ?_
  refine FC.mono (sameints_spec h (some ⟨b, 0, none⟩) la _ _ xs xs hI hl (by omega) (by omega)) ?_
  rintro v' h' ⟨rfl, rfl⟩
  refine S_notb rfl ?_
  refine S_nil (hK3 _ _ (V_keep [0, 10] (by simp only [proj, lk, reduceIte, Nat.reduceEqDiff]; rfl) ?_)); clear hK3
  refine V_condb rfl (fun c157 => ?_) (fun c157 => ?_)
  · skip
    exfalso; simp at c157
  · skip
    refine V_skipk [0] (by simp only [proj, lk, reduceIte, Nat.reduceEqDiff]; rfl) ?_
    refine hK2 _ _ ?_; clear hK2
    refine V_sr T.mix (by kernel_rfl) (fun K4 hK4 => ?_)
    refine S_mv rfl ?_
    refine S_mv rfl ?_
    refine S_capl T.el32 rfl ?_
    refine S_sl rfl rfl rfl (sliceV_hi T.el32 (by omega) (by omega)) ?_
    rw [show (((xs.length + 4 : Nat) : Int)).toNat = xs.length + 4 by omega]
    refine S_as rfl ?_
    refine S_nil (hK4 _ _ (V_keep [0, 5] (by simp only [proj, lk, reduceIte, Nat.reduceEqDiff]; rfl) ?_)); clear hK4
    refine V_seq (fun K5 hK5 => ?_)
    refine V_sr T.mix (by kernel_rfl) (fun K6 hK6 => ?_)
    refine S_mv rfl ?_
    refine S_lenl T.el32 rfl ?_
    refine S_as rfl ?_
    refine S_nil (hK6 _ _ (V_keep [5, 6] (by simp only [proj, lk, reduceIte, Nat.reduceEqDiff]; rfl) ?_)); clear hK6
    refine V_block ?_
    refine V_loop (fun m l h' => ∃ (i : Nat), (xs.length ≤ i) ∧ (i ≤ xs.length + 4) ∧ m = xs.length + 4 - i ∧ l = [(5, .slice (some ⟨b, 0, none⟩) (xs.length + 4) (xs.length + 4)), (6, .int .i64 (i : Int))] ∧ h = h') _ ⟨xs.length, Nat.le_refl _, by omega, rfl, rfl, rfl⟩ ?_
    rintro m l h' ⟨i, hi1, hi, rfl, rfl, rfl⟩ K7 hK7
    refine V_seq (fun K8 hK8 => ?_)
    refine V_sr T.mix (by kernel_rfl) (fun K9 hK9 => ?_)
    refine S_mv rfl ?_
    refine S_mv rfl ?_
    refine S_lenl T.el32 rfl ?_
    refine S_bin rfl rfl rfl ?_
    refine S_nil (hK9 _ _ (V_keep [5, 6, 20] (by simp only [proj, lk, reduceIte, Nat.reduceEqDiff]; rfl) ?_)); clear hK9
    refine V_condp rfl (fun c161 => ?_) (fun c161 => ?_)
    · skip
      refine V_skipk [5, 6] (by simp only [proj, lk, reduceIte, Nat.reduceEqDiff]; rfl) ?_
      refine hK8 _ _ ?_; clear hK8
      refine V_seq (fun K10 hK10 => ?_)
      refine V_block ?_
      refine V_sr T.mix (by kernel_rfl) (fun K11 hK11 => ?_)
      refine S_mv rfl ?_
      refine S_mv rfl ?_
      first | refine S_ixn T.el32 rfl rfl (by omega) ?_ | refine S_ix1 T.el32 rfl rfl (by omega) (by omega) ?_ | refine S_ix T.el32 rfl rfl (by omega) (by omega) ?_
      refine S_ldK T.ag3 rfl (fun K' hK' => ?_)
      simp (disch := omega) only [hat, oP_some, Nat.add_zero]
      refine hK' _ ?_; clear hK' K'
      refine S_bin rfl rfl rfl ?_
      refine S_nil (hK11 _ _ (V_keep [5, 6, 27] (by simp only [proj, lk, reduceIte, Nat.reduceEqDiff]; rfl) ?_)); clear hK11
      refine V_condp rfl (fun c162 => ?_) (fun c162 => ?_)
      · skip
        exfalso; exact c162 rfl
      · skip
        refine V_skipk [5, 6] (by simp only [proj, lk, reduceIte, Nat.reduceEqDiff]; rfl) ?_
        refine hK10 _ _ ?_; clear hK10
        refine V_reg T.mix (by kernel_rfl) ?_
        refine S_mv rfl ?_
        first | refine S_add rfl rfl (by omega) (by omega) ?_ | refine S_bin rfl rfl rfl ?_
        refine S_as rfl ?_
        refine S_nilk [5, 6] (by simp only [proj, lk, reduceIte, Nat.reduceEqDiff]; rfl) ?_
        exact hK7 _ _ ⟨_, by omega, i + 1, by omega, by omega, rfl, rfl, rfl⟩
    · skip
      refine V_exitk [] rfl (by simp only [proj, lk, reduceIte, Nat.reduceEqDiff]; rfl) ?_
      refine hK5 _ _ ?_; clear hK5
      refine V_sr T.mix (by kernel_rfl) (fun K12 hK12 => ?_)
      refine S_as rfl ?_
      refine S_nil (hK12 _ _ (V_keep [4] (by simp only [proj, lk, reduceIte, Nat.reduceEqDiff]; rfl) ?_)); clear hK12
      refine V_ret ?_
      refine hR _ _ (ret1 rfl rfl ?_)
      exact ⟨rfl, rfl⟩
set_option maxHeartbeats 400000 in
theorem push_spec (h : Heap) (a : Option Addr) (cap : Nat) (xs : List Int) (ho : IL h a cap xs) (hl : xs.length ≤ 1000) (x : Int) :
    FC Try.prog 19 (#[.slice a xs.length cap, .int .i64 x, .int .i64 265] : Array Value) h fun v h' => ∃ a' cap' ys, v = .slice a' ys.length cap' ∧ IL h' a' cap' ys ∧ ys = (if 265 < xs.length then xs else xs ++ [x]) ∧ Ext (fun z => blkA a = some z) h h' ∧ (∀ z, blkA a' = some z → blkA a = some z ∨ h.size ≤ z) := by
  refine FC_of [(0, .slice a xs.length cap), (1, .int .i64 x), (2, .int .i64 265)] Try.func19 rfl Try.ntmps19 (by simp) rfl (fun R hR => ?_)
  refine V_sr T.mix (by kernel_rfl) (fun K1 hK1 => ?_)
  refine S_as rfl ?_
  refine S_nil (hK1 _ _ (V_keep [0, 1, 2] (by simp only [proj, lk, reduceIte, Nat.reduceEqDiff]; rfl) ?_)); clear hK1
  refine V_seq (fun K2 hK2 => ?_)
  refine V_sr T.mix (by kernel_rfl) (fun K3 hK3 => ?_)
  refine S_mv rfl ?_
  refine S_lenl T.el32 rfl ?_
  refine S_mv rfl ?_
  refine S_bin rfl rfl rfl ?_
  refine S_nil (hK3 _ _ (V_keep [0, 1, 10] (by simp only [proj, lk, reduceIte, Nat.reduceEqDiff]; rfl) ?_)); clear hK3
  refine V_condp rfl (fun c62 => ?_) (fun c62 => ?_)
  · skip
    refine V_sr T.mix (by kernel_rfl) (fun K4 hK4 => ?_)
    refine S_mv rfl ?_
    refine S_as rfl ?_
    refine S_nil (hK4 _ _ (V_keep [6] (by simp only [proj, lk, reduceIte, Nat.reduceEqDiff]; rfl) ?_)); clear hK4
    refine V_ret ?_
    refine hR _ _ (ret1 rfl rfl ?_)
    exact ⟨a, cap, xs, rfl, ho, by rw [if_pos (by omega)], Ext.refl _ _, fun z e => .inl e⟩
  · skip
    refine V_skipk [0, 1] (by simp only [proj, lk, reduceIte, Nat.reduceEqDiff]; rfl) ?_
    refine hK2 _ _ ?_; clear hK2
    refine V_sr T.mix (by kernel_rfl) (fun K5 hK5 => ?_)
    refine S_mv rfl ?_
    refine S_mv rfl ?_
    refine S_bs T.ei32 rfl (by decide) (by decide) (T.bs32_1_0 _) ?_
    refine S_appx (lo := 0) T.ei32 T.ni32 T.us32 rfl rfl rfl (OwnR.ext ho (Ext.push (fun _ => False) _ _) (fun _ _ f => f)) (Nat.zero_le _) (cellsH_new _ _ _) rfl (by omega) (by decide) (by decide) rfl (fun a4 c4 h4 ho4 hE4x hb4x => ?_)
    have hE4 : Ext (fun z => blkA a = some z) h h4 := (Ext.push _ _ _).trans hE4x
    have hb4 := new_blk3 (h := h) hb4x (by simp)
    refine S_as rfl ?_
    refine S_nil (hK5 _ _ (V_keep [6] (by simp only [proj, lk, reduceIte, Nat.reduceEqDiff]; rfl) ?_)); clear hK5
    refine V_ret ?_
    refine hR _ _ (ret1 rfl rfl ?_)
    have ho5 : IL h4 a4 c4 (xs ++ [x]) := by unfold IL; rw [ints_snoc, List.length_append]; exact ho4
    exact ⟨a4, c4, xs ++ [x], by simp, ho5, by rw [if_neg (by omega)], hE4, hb4⟩
set_option maxHeartbeats 1600000 in
theorem fill_spec (h : Heap) (a : Option Addr) (cap : Nat) (xs : List Int) (ho : IL h a cap xs) (hl : xs.length ≤ 266) (x tm : Int) :
    FC Try.prog 20 (#[.slice a xs.length cap, .int .i64 x, .int .i64 tm] : Array Value) h fun v h' => ∃ a' cap' ys, v = .slice a' ys.length cap' ∧ IL h' a' cap' ys ∧ ys.length ≤ 266 ∧ Ext (fun z => blkA a = some z) h h' ∧ (∀ z, blkA a' = some z → blkA a = some z ∨ h.size ≤ z) := by
  refine FC_of [(0, .slice a xs.length cap), (1, .int .i64 x), (2, .int .i64 tm)] Try.func20 rfl Try.ntmps20 (by simp) rfl (fun R hR => ?_)
  refine V_sr T.mix (by kernel_rfl) (fun K1 hK1 => ?_)
  refine S_as rfl ?_
  refine S_nil (hK1 _ _ (V_keep [0, 1, 2] (by simp only [proj, lk, reduceIte, Nat.reduceEqDiff]; rfl) ?_)); clear hK1
  refine V_seq (fun K2 hK2 => ?_)
  refine V_sr T.mix (by kernel_rfl) (fun K3 hK3 => ?_)
  refine S_as rfl ?_
  refine S_nil (hK3 _ _ (V_keep [0, 1, 2, 7] (by simp only [proj, lk, reduceIte, Nat.reduceEqDiff]; rfl) ?_)); clear hK3
  refine V_block ?_
  refine V_loop (fun m l h' => ∃ (i : Nat) (hk : Heap) (ak : Option Addr) (ck : Nat) (yk : List Int), (i ≤ 266) ∧ (IL hk ak ck yk) ∧ (yk.length ≤ 266) ∧ (Ext (fun z => blkA a = some z) h hk) ∧ (∀ z, blkA ak = some z → blkA a = some z ∨ h.size ≤ z) ∧ m = 266 - i ∧ l = [(0, .slice ak yk.length ck), (1, .int .i64 x), (2, .int .i64 tm), (7, .int .i64 (i : Int))] ∧ hk = h') _ ⟨0, h, a, cap, xs, by omega, ho, hl, Ext.refl _ _, fun z e => .inl e, rfl, rfl, rfl⟩ ?_
  rintro m l h' ⟨i, hk, ak, ck, yk, hi, hIk, hyk, hEk, hbk, rfl, rfl, rfl⟩ K4 hK4
  have hzk := hEk.1
  refine V_seq (fun K5 hK5 => ?_)
  refine V_sr T.mix (by kernel_rfl) (fun K6 hK6 => ?_)
  refine S_cut (K' := fun l h' => ∃ b : Bool, (b = true ↔ ((i : Int) < tm ∧ i ≤ 265)) ∧ l = [(0, .slice ak yk.length ck), (1, .int .i64 x), (2, .int .i64 tm), (7, .int .i64 (i : Int)), (14, .bool b)] ∧ hk = h') ?_ ?_
  · skip
    refine S_mv rfl ?_
    refine S_mv rfl ?_
    refine S_bin rfl rfl rfl ?_
    refine S_mv rfl ?_
    refine S_dec (fun g346 => ?_) (fun g346 => ?_)
    · skip
      refine S_gt rfl ?_
      refine S_mv rfl ?_
      refine S_gt rfl ?_
      refine S_bin rfl rfl rfl ?_
      refine S_pt rfl rfl ?_
      exact S_nilk [0, 1, 2, 7, 14] (by simp only [proj, lk, reduceIte, Nat.reduceEqDiff]; rfl) ⟨_, (by first | (simp only [decide_eq_true_eq]; omega) | (simp; omega)), rfl, rfl⟩
    · skip
      refine S_gf rfl ?_
      refine S_gf rfl ?_
      refine S_pf rfl rfl ?_
      exact S_nilk [0, 1, 2, 7, 14] (by simp only [proj, lk, reduceIte, Nat.reduceEqDiff]; rfl) ⟨_, (by first | (simp only [decide_eq_true_eq]; omega) | (simp; omega)), rfl, rfl⟩
  rintro l h' ⟨b, hb346, rfl, rfl⟩
  refine hK6 _ _ ?_; clear hK6
  refine V_condb rfl (fun c346 => ?_) (fun c346 => ?_)
  · replace c346 := hb346.1 c346
    refine V_skipk [0, 1, 2, 7] (by simp only [proj, lk, reduceIte, Nat.reduceEqDiff]; rfl) ?_
    refine hK5 _ _ ?_; clear hK5
    refine V_seq (fun K8 hK8 => ?_)
    refine V_block ?_
    refine V_reg T.mix (by kernel_rfl) ?_
    refine S_mv rfl ?_
    refine S_mv rfl ?_
    refine S_call T.hb19 rfl ?_
    refine FC.mono (push_spec hk ak ck yk hIk (by omega) x) ?_
    rintro v' h5 ⟨a5, c5, y5, rfl, hI5, hy5, hE5, hb5⟩
    have hy5l : y5.length ≤ 266 := by rw [hy5]; split; (omega); (simp; omega)
    have hz5 := hE5.1
    refine S_as rfl ?_
    refine S_nilk [0, 1, 2, 7] (by simp only [proj, lk, reduceIte, Nat.reduceEqDiff]; rfl) ?_
    refine hK8 _ _ ?_; clear hK8
    refine V_reg T.mix (by kernel_rfl) ?_
    refine S_mv rfl ?_
    first | refine S_add rfl rfl (by omega) (by omega) ?_ | refine S_bin rfl rfl rfl ?_
    refine S_as rfl ?_
    refine S_nilk [0, 1, 2, 7] (by simp only [proj, lk, reduceIte, Nat.reduceEqDiff]; rfl) ?_
    exact hK4 _ _ ⟨_, by omega, i + 1, h5, a5, c5, y5, by omega, hI5, hy5l, hEk.step hE5 (fun b hb e => by rcases hbk b e with q | q; (exact q); (omega)), fun z e => by rcases hb5 z e with q | q; (exact hbk z q); (exact .inr (by omega)), rfl, rfl, rfl⟩
  · replace c346 : ¬ _ := fun hp => Bool.false_ne_true (c346.symm.trans (hb346.2 hp))
    refine V_exitk [0] rfl (by simp only [proj, lk, reduceIte, Nat.reduceEqDiff]; rfl) ?_
    refine hK2 _ _ ?_; clear hK2
    refine V_sr T.mix (by kernel_rfl) (fun K9 hK9 => ?_)
    refine S_mv rfl ?_
    refine S_as rfl ?_
    refine S_nil (hK9 _ _ (V_keep [6] (by simp only [proj, lk, reduceIte, Nat.reduceEqDiff]; rfl) ?_)); clear hK9
    refine V_ret ?_
    refine hR _ _ (ret1 rfl rfl ?_)
    exact ⟨ak, ck, yk, rfl, hIk, hyk, hEk, hbk⟩
end Go.Proofs.Qxb6500407a
