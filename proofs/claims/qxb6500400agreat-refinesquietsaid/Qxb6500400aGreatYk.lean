import Derived.Test.Qxb6500400aGreatYj
set_option linter.unusedVariables false
set_option linter.unusedSimpArgs false
namespace Go.Proofs.Qxb6500400aGreat
open Go.Eng Go.Trl Go.Chk Go.Wat

theorem bq2 {h : Heap} {b : Nat} {x y : Value} {t : TypeId} (hB : B h b #[x, y] t) : cellH h ⟨b, 0, none⟩ = some x ∧ cellH h ⟨b, 1, none⟩ = some y := ⟨hB.cell 0, hB.cell 1⟩
theorem bq3 {h : Heap} {b : Nat} {x y z : Value} {t : TypeId} (hB : B h b #[x, y, z] t) : cellH h ⟨b, 0, none⟩ = some x ∧ cellH h ⟨b, 1, none⟩ = some y ∧ cellH h ⟨b, 2, none⟩ = some z := ⟨hB.cell 0, hB.cell 1, hB.cell 2⟩
theorem bq4 {h : Heap} {b : Nat} {x y z u : Value} {t : TypeId} (hB : B h b #[x, y, z, u] t) : cellH h ⟨b, 0, none⟩ = some x ∧ cellH h ⟨b, 1, none⟩ = some y ∧ cellH h ⟨b, 2, none⟩ = some z ∧ cellH h ⟨b, 3, none⟩ = some u := ⟨hB.cell 0, hB.cell 1, hB.cell 2, hB.cell 3⟩
def sA (s : TS) : Nat → List Int
  | 0 => [(s.k : Int), (s.L.length : Int), (s.L.length : Int) - s.c]
  | n + 1 => sA s n ++ [valO s (-13 + (n : Int))]
def sB (s : TS) : Nat → List Int
  | 0 => sA s 27
  | n + 1 => sB s n ++ [levV s.L (-1 + (n : Int))] ++ [reaV s.L (-1 + (n : Int))] ++ [plaV s.L (-1 + (n : Int))]
def sC (s : TS) : Nat → List Int
  | 0 => sB s 15
  | n + 1 => sC s n ++ [atL s.L (-1 + (n : Int))]
def sD (s : TS) (cl : Nat → Option (List Int)) : Nat → List Int
  | 0 => sC s 14
  | n + 1 => sD s cl n ++ [(clE cl (-1 + (n : Int)) : Int), ((clF cl (-1 + (n : Int))).length : Int)] ++ clF cl (-1 + (n : Int))
def shotF (s : TS) (cl : Nat → Option (List Int)) : List Int := sD s cl 54 ++ [((idsF cl 52).length : Int)] ++ idsF cl 52
theorem sA_len (s : TS) : ∀ n, (sA s n).length = 3 + n
  | 0 => rfl
  | n + 1 => by rw [sA, List.length_append, sA_len s n]; rfl
theorem sB_len (s : TS) : ∀ n, (sB s n).length = 30 + 3 * n
  | 0 => sA_len s 27
  | n + 1 => by rw [sB]; simp only [List.length_append, sB_len s n, List.length_cons, List.length_nil]; omega
theorem sC_len (s : TS) : ∀ n, (sC s n).length = 75 + n
  | 0 => sB_len s 15
  | n + 1 => by rw [sC, List.length_append, sC_len s n]; rfl
theorem clF_le {cl : Nat → Option (List Int)} (hn : NL cl) (id : Int) : (clF cl id).length ≤ 12 := by
  cases e : liveC cl id with
  | none => rw [(clF_none e).1]; simp
  | some c => rw [(clF_some e).1]; exact (hn.live e).len
theorem sD_len {s : TS} {cl : Nat → Option (List Int)} (hn : NL cl) : ∀ n, (sD s cl n).length ≤ 89 + 14 * n
  | 0 => by have := sC_len s 14; rw [sD]; omega
  | n + 1 => by
    have h1 := sD_len (s := s) hn n
    have h2 := clF_le hn (-1 + (n : Int))
    rw [sD]; simp only [List.length_append, List.length_cons, List.length_nil]; omega
theorem shotF_len {s : TS} {cl : Nat → Option (List Int)} (hn : NL cl) : (shotF s cl).length ≤ 2000 := by
  have h1 := sD_len (s := s) hn 54
  have h2 := idsF_len cl 52
  unfold shotF; simp only [List.length_append, List.length_cons, List.length_nil]; omega
set_option maxHeartbeats 3200000 in
theorem shotb_spec (h : Heap) (C X : Nat) (W : WC) (cl : Nat → Option (List Int)) (s : TS) (p : Nat) (wx : WX h C X W cl s p) :
    FC Tryz.prog 22 (#[.agg #[.pointer (some ⟨X, 0, none⟩), .pointer (some ⟨C, 0, none⟩)]] : Array Value) h fun rv h' => ∃ (a : Option Addr) (c : Nat), rv = .slice a (shotF s cl).length c ∧ IL h' a c (shotF s cl) ∧ (∀ b, blkA a = some b → h.size ≤ b) ∧ Ext (fun _ => False) h h' := by
  have hok : Ok s := wx.ok
  have hl12 := hok.len
  have hdp := hok.dep
  have hcc := hok.c
  have hnl : NL cl := nrm_live wx.i
  have hidl := idsF_len cl 52
  refine FC_of [(0, .agg #[.pointer (some ⟨X, 0, none⟩), .pointer (some ⟨C, 0, none⟩)])] Tryz.func22 rfl Tryz.ntmps22 (by simp) rfl (fun R hR => ?_)
  refine V_sr T.mix (by kernel_rfl) (fun K1 hK1 => ?_)
  refine S_boxA rfl ?_
  generalize hh : Array.push h _ = h1
  have hO : B h1 h.size #[.pointer (some ⟨X, 0, none⟩), .pointer (some ⟨C, 0, none⟩)] 31 := by rw [← hh]; exact B.new _ _ _
  have hEh1 : Ext (fun _ => False) h h1 := by rw [← hh]; exact Ext.push _ _ _
  have hsh1 : h1.size = h.size + 1 := by rw [← hh]; simp
  clear hh
  have ho0 : OwnR h1.size h1 none ([] : List Int).length 0 (ints []) 3 1 := OwnR.nil _ _ _ _
  try clear b0 b1
  obtain ⟨b0, b1⟩ := bq2 (hO.ext (Ext.refl (fun _ => False) _) (fun f => f))
  refine S_as rfl ?_
  refine S_nil (hK1 _ _ (V_keep [1] (by simp only [proj, lk, reduceIte, Nat.reduceEqDiff]; rfl) ?_)); clear hK1
  refine V_sr T.mix (by kernel_rfl) (fun K2 hK2 => ?_)
  refine S_as rfl ?_
  refine S_nil (hK2 _ _ (V_keep [1, 3] (by simp only [proj, lk, reduceIte, Nat.reduceEqDiff]; rfl) ?_)); clear hK2
  refine V_sr T.mix (by kernel_rfl) (fun K3 hK3 => ?_)
  refine S_mv rfl ?_
  first | refine S_fa0 T.f31_0 rfl ?_ | refine S_fa T.f31_0 rfl ?_
  refine S_ldK T.ag28 rfl (fun K' hK' => ?_)
  simp (disch := omega) only [b0, b1, oP_some, Nat.add_zero]
  refine hK' _ ?_; clear hK' K'
  refine S_call T.hb39 rfl ?_
  refine FC.mono (level_spec h1 X s p (wx.ext (hEh1.trans (Ext.refl (fun _ => False) _)) (fun f => f) (fun f => f)).t) ?_
  rintro v' h' ⟨rfl, rfl⟩
  refine S_bs T.ei39 rfl (by decide) (by decide) (T.bs39_1_0 _) ?_
  refine S_appx (lo := h1.size) T.ei39 T.ni39 T.us39 rfl rfl rfl (OwnR.ext ho0 (Ext.push (fun _ => False) _ _) (fun _ _ f => f)) (by simp <;> omega) (cellsH_new _ _ _) rfl (by omega) (by decide) (by decide) rfl (fun a21 c21 h21 ho21 hE21x hb21x => ?_)
  have hE21 : Ext (fun z => blkA none = some z) h1 h21 := (Ext.push _ _ _).trans hE21x
  have hb21 := new_blk2 (h := h1) hb21x (by simp)
  have hI21 : OwnR h1.size h21 a21 ([] ++ [(s.k : Int)]).length c21 (ints ([] ++ [(s.k : Int)])) 3 1 := by rw [ints_snoc, List.length_append]; exact ho21
  have hs21 := hE21.1
  have hEn21 : Ext (fun _ => False) h1 h21 := (Ext.refl (fun _ => False) _).step hE21 (fun z hz e => by have h9 := OwnR.blk2 ho0 e; omega)
  have hsn21 := hEn21.1
  try clear b0 b1
  obtain ⟨b0, b1⟩ := bq2 (hO.ext (hEn21) (fun f => f))
  refine S_as rfl ?_
  refine S_nil (hK3 _ _ (V_keep [1, 3] (by simp only [proj, lk, reduceIte, Nat.reduceEqDiff]; rfl) ?_)); clear hK3
  refine V_sr T.mix (by kernel_rfl) (fun K4 hK4 => ?_)
  refine S_mv rfl ?_
  first | refine S_fa0 T.f31_0 rfl ?_ | refine S_fa T.f31_0 rfl ?_
  refine S_ldK T.ag28 rfl (fun K' hK' => ?_)
  simp (disch := omega) only [b0, b1, oP_some, Nat.add_zero]
  refine hK' _ ?_; clear hK' K'
  refine S_call T.hb40 rfl ?_
  refine FC.mono (len_spec h21 X s p (wx.ext (hEh1.trans (hEn21)) (fun f => f) (fun f => f)).t) ?_
  rintro v' h' ⟨rfl, rfl⟩
  refine S_bs T.ei39 rfl (by decide) (by decide) (T.bs39_1_0 _) ?_
  refine S_appx (lo := h1.size) T.ei39 T.ni39 T.us39 rfl rfl rfl (OwnR.ext hI21 (Ext.push (fun _ => False) _ _) (fun _ _ f => f)) (by simp <;> omega) (cellsH_new _ _ _) rfl (by omega) (by decide) (by decide) rfl (fun a22 c22 h22 ho22 hE22x hb22x => ?_)
  have hE22 : Ext (fun z => blkA a21 = some z) h21 h22 := (Ext.push _ _ _).trans hE22x
  have hb22 := new_blk2 (h := h21) hb22x (by simp)
  have hI22 : OwnR h1.size h22 a22 (([] ++ [(s.k : Int)]) ++ [(s.L.length : Int)]).length c22 (ints (([] ++ [(s.k : Int)]) ++ [(s.L.length : Int)])) 3 1 := by rw [ints_snoc, List.length_append]; exact ho22
  have hs22 := hE22.1
  have hEn22 : Ext (fun _ => False) h1 h22 := (hEn21).step hE22 (fun z hz e => by have h9 := OwnR.blk2 hI21 e; omega)
  have hsn22 := hEn22.1
  try clear b0 b1
  obtain ⟨b0, b1⟩ := bq2 (hO.ext (hEn22) (fun f => f))
  refine S_as rfl ?_
  refine S_nil (hK4 _ _ (V_keep [1, 3] (by simp only [proj, lk, reduceIte, Nat.reduceEqDiff]; rfl) ?_)); clear hK4
  refine V_sr T.mix (by kernel_rfl) (fun K5 hK5 => ?_)
  refine S_mv rfl ?_
  first | refine S_fa0 T.f31_0 rfl ?_ | refine S_fa T.f31_0 rfl ?_
  refine S_ldK T.ag28 rfl (fun K' hK' => ?_)
  simp (disch := omega) only [b0, b1, oP_some, Nat.add_zero]
  refine hK' _ ?_; clear hK' K'
  refine S_call T.hb41 rfl ?_
  refine FC.mono (pending_spec h22 X s p (wx.ext (hEh1.trans (hEn22)) (fun f => f) (fun f => f)).t) ?_
  rintro v' h' ⟨rfl, rfl⟩
  refine S_bs T.ei39 rfl (by decide) (by decide) (T.bs39_1_0 _) ?_
  refine S_appx (lo := h1.size) T.ei39 T.ni39 T.us39 rfl rfl rfl (OwnR.ext hI22 (Ext.push (fun _ => False) _ _) (fun _ _ f => f)) (by simp <;> omega) (cellsH_new _ _ _) rfl (by omega) (by decide) (by decide) rfl (fun a23 c23 h23 ho23 hE23x hb23x => ?_)
  have hE23 : Ext (fun z => blkA a22 = some z) h22 h23 := (Ext.push _ _ _).trans hE23x
  have hb23 := new_blk2 (h := h22) hb23x (by simp)
  have hI23 : OwnR h1.size h23 a23 (([] ++ [(s.k : Int)] ++ [(s.L.length : Int)]) ++ [((s.L.length : Int) - s.c)]).length c23 (ints (([] ++ [(s.k : Int)] ++ [(s.L.length : Int)]) ++ [((s.L.length : Int) - s.c)])) 3 1 := by rw [ints_snoc, List.length_append]; exact ho23
  have hs23 := hE23.1
  have hEn23 : Ext (fun _ => False) h1 h23 := (hEn22).step hE23 (fun z hz e => by have h9 := OwnR.blk2 hI22 e; omega)
  have hsn23 := hEn23.1
  try clear b0 b1
  obtain ⟨b0, b1⟩ := bq2 (hO.ext (hEn23) (fun f => f))
  refine S_as rfl ?_
  refine S_nil (hK5 _ _ (V_keep [1, 3] (by simp only [proj, lk, reduceIte, Nat.reduceEqDiff]; rfl) ?_)); clear hK5
  refine V_seq (fun K6 hK6 => ?_)
  refine V_sr T.mix (by kernel_rfl) (fun K7 hK7 => ?_)
  refine S_as rfl ?_
  refine S_nil (hK7 _ _ (V_keep [1, 3, 4] (by simp only [proj, lk, reduceIte, Nat.reduceEqDiff]; rfl) ?_)); clear hK7
  refine V_block ?_
  refine V_loop (fun m l h' => ∃ (n : Nat) (hk : Heap) (oa : Option Addr) (oc : Nat), (n ≤ 27) ∧ (OwnR h1.size hk oa (sA s n).length oc (ints (sA s n)) 3 1) ∧ (Ext (fun _ => False) h1 hk) ∧ m = 27 - n ∧ l = [(1, .pointer (some ⟨h.size, 0, none⟩)), (3, .slice oa (sA s n).length oc), (4, .int .i64 (-13 + (n : Int)))] ∧ hk = h') _ ⟨0, h23, a23, c23, by omega, hI23, hEn23, rfl, rfl, rfl⟩ ?_
  rintro m l h' ⟨n, hk, oa, oc, hn, hoo, hEk, rfl, rfl, rfl⟩ K8 hK8
  try clear b0 b1
  obtain ⟨b0, b1⟩ := bq2 (hO.ext (hEk) (fun f => f))
  have hsk := hEk.1
  have hl0 := sA_len s n
  have hl1 := sB_len s n
  have hl2 := sC_len s n
  have hl3 := sD_len (s := s) hnl n
  refine V_seq (fun K9 hK9 => ?_)
  refine V_sr T.mix (by kernel_rfl) (fun K10 hK10 => ?_)
  refine S_mv rfl ?_
  refine S_bin rfl rfl rfl ?_
  refine S_nil (hK10 _ _ (V_keep [1, 3, 4, 30] (by simp only [proj, lk, reduceIte, Nat.reduceEqDiff]; rfl) ?_)); clear hK10
  refine V_condp rfl (fun c101 => ?_) (fun c101 => ?_)
  · skip
    refine V_skipk [1, 3, 4] (by simp only [proj, lk, reduceIte, Nat.reduceEqDiff]; rfl) ?_
    refine hK9 _ _ ?_; clear hK9
    refine V_seq (fun K11 hK11 => ?_)
    refine V_block ?_
    refine V_reg T.mix (by kernel_rfl) ?_
    refine S_mv rfl ?_
    first | refine S_fa0 T.f31_0 rfl ?_ | refine S_fa T.f31_0 rfl ?_
    refine S_ldK T.ag28 rfl (fun K' hK' => ?_)
    simp (disch := omega) only [b0, b1, oP_some, Nat.add_zero]
    refine hK' _ ?_; clear hK' K'
    refine S_mv rfl ?_
    refine S_call T.hb42 rfl ?_
    refine FC.mono (value_spec hk X s p (wx.ext (hEh1.trans (hEk)) (fun f => f) (fun f => f)).t (-13 + (n : Int))) ?_
    rintro v' h' ⟨rfl, rfl⟩
    refine S_bs T.ei39 rfl (by decide) (by decide) (T.bs39_1_0 _) ?_
    refine S_appx (lo := h1.size) T.ei39 T.ni39 T.us39 rfl rfl rfl (OwnR.ext hoo (Ext.push (fun _ => False) _ _) (fun _ _ f => f)) (by simp <;> omega) (cellsH_new _ _ _) rfl (by omega) (by decide) (by decide) rfl (fun a24 c24 h24 ho24 hE24x hb24x => ?_)
    have hE24 : Ext (fun z => blkA oa = some z) hk h24 := (Ext.push _ _ _).trans hE24x
    have hb24 := new_blk2 (h := hk) hb24x (by simp)
    have hI24 : OwnR h1.size h24 a24 (sA s n ++ [valO s (-13 + (n : Int))]).length c24 (ints (sA s n ++ [valO s (-13 + (n : Int))])) 3 1 := by rw [ints_snoc, List.length_append]; exact ho24
    have hs24 := hE24.1
    have hEn24 : Ext (fun _ => False) h1 h24 := (hEk).step hE24 (fun z hz e => by have h9 := OwnR.blk2 hoo e; omega)
    have hsn24 := hEn24.1
    refine S_as rfl ?_
    refine S_nilk [1, 3, 4] (by simp only [proj, lk, reduceIte, Nat.reduceEqDiff]; rfl) ?_
    refine hK11 _ _ ?_; clear hK11
    refine V_reg T.mix (by kernel_rfl) ?_
    refine S_mv rfl ?_
    first | refine S_add rfl rfl (by omega) (by omega) ?_ | refine S_bin rfl rfl rfl ?_
    refine S_as rfl ?_
    refine S_nilk [1, 3, 4] (by simp only [proj, lk, reduceIte, Nat.reduceEqDiff]; rfl) ?_
    exact hK8 _ _ ⟨_, by omega, n + 1, h24, a24, c24, by omega, hI24, hEn24, rfl, by rw [show (-13 : Int) + ((n + 1 : Nat) : Int) = -13 + (n : Int) + 1 by omega, show (sA s (n + 1)).length = (sA s n).length + 1 by simp [sA]], rfl⟩
  · skip
    have hn27 : n = 27 := by omega
    subst hn27
    refine V_exitk [1, 3] rfl (by simp only [proj, lk, reduceIte, Nat.reduceEqDiff]; rfl) ?_
    refine hK6 _ _ ?_; clear hK6
    refine V_seq (fun K12 hK12 => ?_)
    refine V_sr T.mix (by kernel_rfl) (fun K13 hK13 => ?_)
    refine S_as rfl ?_
    refine S_nil (hK13 _ _ (V_keep [1, 3, 5] (by simp only [proj, lk, reduceIte, Nat.reduceEqDiff]; rfl) ?_)); clear hK13
    refine V_block ?_
    refine V_loop (fun m l h' => ∃ (n : Nat) (hk : Heap) (oa : Option Addr) (oc : Nat), (n ≤ 15) ∧ (OwnR h1.size hk oa (sB s n).length oc (ints (sB s n)) 3 1) ∧ (Ext (fun _ => False) h1 hk) ∧ m = 15 - n ∧ l = [(1, .pointer (some ⟨h.size, 0, none⟩)), (3, .slice oa (sB s n).length oc), (5, .int .i64 (-1 + (n : Int)))] ∧ hk = h') _ ⟨0, hk, oa, oc, by omega, hoo, hEk, rfl, rfl, rfl⟩ ?_
    rintro m l h' ⟨n, hk, oa, oc, hn, hoo, hEk, rfl, rfl, rfl⟩ K14 hK14
    try clear b0 b1
    obtain ⟨b0, b1⟩ := bq2 (hO.ext (hEk) (fun f => f))
    have hsk := hEk.1
    have hl0 := sA_len s n
    have hl1 := sB_len s n
    have hl2 := sC_len s n
    have hl3 := sD_len (s := s) hnl n
    refine V_seq (fun K15 hK15 => ?_)
    refine V_sr T.mix (by kernel_rfl) (fun K16 hK16 => ?_)
    refine S_mv rfl ?_
    refine S_bin rfl rfl rfl ?_
    refine S_nil (hK16 _ _ (V_keep [1, 3, 5, 41] (by simp only [proj, lk, reduceIte, Nat.reduceEqDiff]; rfl) ?_)); clear hK16
    refine V_condp rfl (fun c104 => ?_) (fun c104 => ?_)
    · skip
      refine V_skipk [1, 3, 5] (by simp only [proj, lk, reduceIte, Nat.reduceEqDiff]; rfl) ?_
      refine hK15 _ _ ?_; clear hK15
      refine V_seq (fun K17 hK17 => ?_)
      refine V_block ?_
      refine V_sr T.mix (by kernel_rfl) (fun K18 hK18 => ?_)
      refine S_mv rfl ?_
      first | refine S_fa0 T.f31_0 rfl ?_ | refine S_fa T.f31_0 rfl ?_
      refine S_ldK T.ag28 rfl (fun K' hK' => ?_)
      simp (disch := omega) only [b0, b1, oP_some, Nat.add_zero]
      refine hK' _ ?_; clear hK' K'
      refine S_mv rfl ?_
      refine S_call T.hb43 rfl ?_
      refine FC.mono (levelof_spec hk X s p (wx.ext (hEh1.trans (hEk)) (fun f => f) (fun f => f)).t (-1 + (n : Int))) ?_
      rintro v' h' ⟨rfl, rfl⟩
      refine S_bs T.ei39 rfl (by decide) (by decide) (T.bs39_1_0 _) ?_
      refine S_appx (lo := h1.size) T.ei39 T.ni39 T.us39 rfl rfl rfl (OwnR.ext hoo (Ext.push (fun _ => False) _ _) (fun _ _ f => f)) (by simp <;> omega) (cellsH_new _ _ _) rfl (by omega) (by decide) (by decide) rfl (fun a25 c25 h25 ho25 hE25x hb25x => ?_)
      have hE25 : Ext (fun z => blkA oa = some z) hk h25 := (Ext.push _ _ _).trans hE25x
      have hb25 := new_blk2 (h := hk) hb25x (by simp)
      have hI25 : OwnR h1.size h25 a25 (sB s n ++ [levV s.L (-1 + (n : Int))]).length c25 (ints (sB s n ++ [levV s.L (-1 + (n : Int))])) 3 1 := by rw [ints_snoc, List.length_append]; exact ho25
      have hs25 := hE25.1
      have hEn25 : Ext (fun _ => False) h1 h25 := (hEk).step hE25 (fun z hz e => by have h9 := OwnR.blk2 hoo e; omega)
      have hsn25 := hEn25.1
      have hl25 : (sB s n ++ [levV s.L (-1 + (n : Int))]).length = (sB s n).length + 1 := by simp
      rw [← show (sB s n ++ [levV s.L (-1 + (n : Int))]).length = (sB s n).length + 1 by simp]
      try clear b0 b1
      obtain ⟨b0, b1⟩ := bq2 (hO.ext (hEn25) (fun f => f))
      refine S_as rfl ?_
      refine S_nil (hK18 _ _ (V_keep [1, 3, 5] (by simp only [proj, lk, reduceIte, Nat.reduceEqDiff]; rfl) ?_)); clear hK18
      refine V_sr T.mix (by kernel_rfl) (fun K19 hK19 => ?_)
      refine S_mv rfl ?_
      first | refine S_fa0 T.f31_0 rfl ?_ | refine S_fa T.f31_0 rfl ?_
      refine S_ldK T.ag28 rfl (fun K' hK' => ?_)
      simp (disch := omega) only [b0, b1, oP_some, Nat.add_zero]
      refine hK' _ ?_; clear hK' K'
      refine S_mv rfl ?_
      refine S_call T.hb44 rfl ?_
      refine FC.mono (reason_spec h25 X s p (wx.ext (hEh1.trans (hEn25)) (fun f => f) (fun f => f)).t (-1 + (n : Int))) ?_
      rintro v' h' ⟨rfl, rfl⟩
      refine S_bs T.ei39 rfl (by decide) (by decide) (T.bs39_1_0 _) ?_
      refine S_appx (lo := h1.size) T.ei39 T.ni39 T.us39 rfl rfl rfl (OwnR.ext hI25 (Ext.push (fun _ => False) _ _) (fun _ _ f => f)) (by simp <;> omega) (cellsH_new _ _ _) rfl (by omega) (by decide) (by decide) rfl (fun a26 c26 h26 ho26 hE26x hb26x => ?_)
      have hE26 : Ext (fun z => blkA a25 = some z) h25 h26 := (Ext.push _ _ _).trans hE26x
      have hb26 := new_blk2 (h := h25) hb26x (by simp)
      have hI26 : OwnR h1.size h26 a26 ((sB s n ++ [levV s.L (-1 + (n : Int))]) ++ [reaV s.L (-1 + (n : Int))]).length c26 (ints ((sB s n ++ [levV s.L (-1 + (n : Int))]) ++ [reaV s.L (-1 + (n : Int))])) 3 1 := by rw [ints_snoc, List.length_append]; exact ho26
      have hs26 := hE26.1
      have hEn26 : Ext (fun _ => False) h1 h26 := (hEn25).step hE26 (fun z hz e => by have h9 := OwnR.blk2 hI25 e; omega)
      have hsn26 := hEn26.1
      rw [← show (sB s n ++ [levV s.L (-1 + (n : Int))] ++ [reaV s.L (-1 + (n : Int))]).length = (sB s n ++ [levV s.L (-1 + (n : Int))]).length + 1 by simp]
      have hl26 : (sB s n ++ [levV s.L (-1 + (n : Int))] ++ [reaV s.L (-1 + (n : Int))]).length = (sB s n).length + 2 := by simp
      try clear b0 b1
      obtain ⟨b0, b1⟩ := bq2 (hO.ext (hEn26) (fun f => f))
      refine S_as rfl ?_
      refine S_nil (hK19 _ _ (V_keep [1, 3, 5] (by simp only [proj, lk, reduceIte, Nat.reduceEqDiff]; rfl) ?_)); clear hK19
      refine V_reg T.mix (by kernel_rfl) ?_
      refine S_mv rfl ?_
      first | refine S_fa0 T.f31_0 rfl ?_ | refine S_fa T.f31_0 rfl ?_
      refine S_ldK T.ag28 rfl (fun K' hK' => ?_)
      simp (disch := omega) only [b0, b1, oP_some, Nat.add_zero]
      refine hK' _ ?_; clear hK' K'
      refine S_mv rfl ?_
      refine S_call T.hb45 rfl ?_
      refine FC.mono (place_spec h26 X s p (wx.ext (hEh1.trans (hEn26)) (fun f => f) (fun f => f)).t (-1 + (n : Int))) ?_
      rintro v' h' ⟨rfl, rfl⟩
      refine S_bs T.ei39 rfl (by decide) (by decide) (T.bs39_1_0 _) ?_
      refine S_appx (lo := h1.size) T.ei39 T.ni39 T.us39 rfl rfl rfl (OwnR.ext hI26 (Ext.push (fun _ => False) _ _) (fun _ _ f => f)) (by simp <;> omega) (cellsH_new _ _ _) rfl (by omega) (by decide) (by decide) rfl (fun a27 c27 h27 ho27 hE27x hb27x => ?_)
      have hE27 : Ext (fun z => blkA a26 = some z) h26 h27 := (Ext.push _ _ _).trans hE27x
      have hb27 := new_blk2 (h := h26) hb27x (by simp)
      have hI27 : OwnR h1.size h27 a27 ((sB s n ++ [levV s.L (-1 + (n : Int))] ++ [reaV s.L (-1 + (n : Int))]) ++ [plaV s.L (-1 + (n : Int))]).length c27 (ints ((sB s n ++ [levV s.L (-1 + (n : Int))] ++ [reaV s.L (-1 + (n : Int))]) ++ [plaV s.L (-1 + (n : Int))])) 3 1 := by rw [ints_snoc, List.length_append]; exact ho27
      have hs27 := hE27.1
      have hEn27 : Ext (fun _ => False) h1 h27 := (hEn26).step hE27 (fun z hz e => by have h9 := OwnR.blk2 hI26 e; omega)
      have hsn27 := hEn27.1
      try clear b0 b1
      obtain ⟨b0, b1⟩ := bq2 (hO.ext (hEn27) (fun f => f))
      refine S_as rfl ?_
      refine S_nilk [1, 3, 5] (by simp only [proj, lk, reduceIte, Nat.reduceEqDiff]; rfl) ?_
      refine hK17 _ _ ?_; clear hK17
      refine V_reg T.mix (by kernel_rfl) ?_
      refine S_mv rfl ?_
      first | refine S_add rfl rfl (by omega) (by omega) ?_ | refine S_bin rfl rfl rfl ?_
      refine S_as rfl ?_
      refine S_nilk [1, 3, 5] (by simp only [proj, lk, reduceIte, Nat.reduceEqDiff]; rfl) ?_
      exact hK14 _ _ ⟨_, by omega, n + 1, h27, a27, c27, by omega, hI27, hEn27, rfl, by rw [show (-1 : Int) + ((n + 1 : Nat) : Int) = -1 + (n : Int) + 1 by omega, show (sB s (n + 1)).length = (sB s n ++ [levV s.L (-1 + (n : Int))] ++ [reaV s.L (-1 + (n : Int))]).length + 1 by simp [sB]], rfl⟩
    · skip
      have hn15 : n = 15 := by omega
      subst hn15
      refine V_exitk [1, 3] rfl (by simp only [proj, lk, reduceIte, Nat.reduceEqDiff]; rfl) ?_
      refine hK12 _ _ ?_; clear hK12
      refine V_seq (fun K20 hK20 => ?_)
      refine V_sr T.mix (by kernel_rfl) (fun K21 hK21 => ?_)
      refine S_as rfl ?_
      refine S_nil (hK21 _ _ (V_keep [1, 3, 6] (by simp only [proj, lk, reduceIte, Nat.reduceEqDiff]; rfl) ?_)); clear hK21
      refine V_block ?_
      refine V_loop (fun m l h' => ∃ (n : Nat) (hk : Heap) (oa : Option Addr) (oc : Nat), (n ≤ 14) ∧ (OwnR h1.size hk oa (sC s n).length oc (ints (sC s n)) 3 1) ∧ (Ext (fun _ => False) h1 hk) ∧ m = 14 - n ∧ l = [(1, .pointer (some ⟨h.size, 0, none⟩)), (3, .slice oa (sC s n).length oc), (6, .int .i64 (-1 + (n : Int)))] ∧ hk = h') _ ⟨0, hk, oa, oc, by omega, hoo, hEk, rfl, rfl, rfl⟩ ?_
      rintro m l h' ⟨n, hk, oa, oc, hn, hoo, hEk, rfl, rfl, rfl⟩ K22 hK22
      try clear b0 b1
      obtain ⟨b0, b1⟩ := bq2 (hO.ext (hEk) (fun f => f))
      have hsk := hEk.1
      have hl0 := sA_len s n
      have hl1 := sB_len s n
      have hl2 := sC_len s n
      have hl3 := sD_len (s := s) hnl n
      refine V_seq (fun K23 hK23 => ?_)
      refine V_sr T.mix (by kernel_rfl) (fun K24 hK24 => ?_)
      refine S_mv rfl ?_
      refine S_bin rfl rfl rfl ?_
      refine S_nil (hK24 _ _ (V_keep [1, 3, 6, 66] (by simp only [proj, lk, reduceIte, Nat.reduceEqDiff]; rfl) ?_)); clear hK24
      refine V_condp rfl (fun c109 => ?_) (fun c109 => ?_)
      · skip
        refine V_skipk [1, 3, 6] (by simp only [proj, lk, reduceIte, Nat.reduceEqDiff]; rfl) ?_
        refine hK23 _ _ ?_; clear hK23
        refine V_seq (fun K25 hK25 => ?_)
        refine V_block ?_
        refine V_reg T.mix (by kernel_rfl) ?_
        refine S_mv rfl ?_
        first | refine S_fa0 T.f31_0 rfl ?_ | refine S_fa T.f31_0 rfl ?_
        refine S_ldK T.ag28 rfl (fun K' hK' => ?_)
        simp (disch := omega) only [b0, b1, oP_some, Nat.add_zero]
        refine hK' _ ?_; clear hK' K'
        refine S_mv rfl ?_
        refine S_call T.hb46 rfl ?_
        refine FC.mono (at_spec hk X s p (wx.ext (hEh1.trans (hEk)) (fun f => f) (fun f => f)).t (-1 + (n : Int))) ?_
        rintro v' h' ⟨rfl, rfl⟩
        refine S_bs T.ei39 rfl (by decide) (by decide) (T.bs39_1_0 _) ?_
        refine S_appx (lo := h1.size) T.ei39 T.ni39 T.us39 rfl rfl rfl (OwnR.ext hoo (Ext.push (fun _ => False) _ _) (fun _ _ f => f)) (by simp <;> omega) (cellsH_new _ _ _) rfl (by omega) (by decide) (by decide) rfl (fun a28 c28 h28 ho28 hE28x hb28x => ?_)
        have hE28 : Ext (fun z => blkA oa = some z) hk h28 := (Ext.push _ _ _).trans hE28x
        have hb28 := new_blk2 (h := hk) hb28x (by simp)
        have hI28 : OwnR h1.size h28 a28 (sC s n ++ [atL s.L (-1 + (n : Int))]).length c28 (ints (sC s n ++ [atL s.L (-1 + (n : Int))])) 3 1 := by rw [ints_snoc, List.length_append]; exact ho28
        have hs28 := hE28.1
        have hEn28 : Ext (fun _ => False) h1 h28 := (hEk).step hE28 (fun z hz e => by have h9 := OwnR.blk2 hoo e; omega)
        have hsn28 := hEn28.1
        refine S_as rfl ?_
        refine S_nilk [1, 3, 6] (by simp only [proj, lk, reduceIte, Nat.reduceEqDiff]; rfl) ?_
        refine hK25 _ _ ?_; clear hK25
        refine V_reg T.mix (by kernel_rfl) ?_
        refine S_mv rfl ?_
        first | refine S_add rfl rfl (by omega) (by omega) ?_ | refine S_bin rfl rfl rfl ?_
        refine S_as rfl ?_
        refine S_nilk [1, 3, 6] (by simp only [proj, lk, reduceIte, Nat.reduceEqDiff]; rfl) ?_
        exact hK22 _ _ ⟨_, by omega, n + 1, h28, a28, c28, by omega, hI28, hEn28, rfl, by rw [show (-1 : Int) + ((n + 1 : Nat) : Int) = -1 + (n : Int) + 1 by omega, show (sC s (n + 1)).length = (sC s n).length + 1 by simp [sC]], rfl⟩
      · skip
        have hn14 : n = 14 := by omega
        subst hn14
        refine V_exitk [1, 3] rfl (by simp only [proj, lk, reduceIte, Nat.reduceEqDiff]; rfl) ?_
        refine hK20 _ _ ?_; clear hK20
        refine V_seq (fun K26 hK26 => ?_)
        refine V_sr T.mix (by kernel_rfl) (fun K27 hK27 => ?_)
        refine S_as rfl ?_
        refine S_nil (hK27 _ _ (V_keep [1, 3, 7] (by simp only [proj, lk, reduceIte, Nat.reduceEqDiff]; rfl) ?_)); clear hK27
        refine V_block ?_
        refine V_loop (fun m l h' => ∃ (n : Nat) (hk : Heap) (oa : Option Addr) (oc : Nat), (n ≤ 54) ∧ (OwnR h1.size hk oa (sD s cl n).length oc (ints (sD s cl n)) 3 1) ∧ (Ext (fun _ => False) h1 hk) ∧ m = 54 - n ∧ l = [(1, .pointer (some ⟨h.size, 0, none⟩)), (3, .slice oa (sD s cl n).length oc), (7, .int .i64 (-1 + (n : Int)))] ∧ hk = h') _ ⟨0, hk, oa, oc, by omega, hoo, hEk, rfl, rfl, rfl⟩ ?_
        rintro m l h' ⟨n, hk, oa, oc, hn, hoo, hEk, rfl, rfl, rfl⟩ K28 hK28
        try clear b0 b1
        obtain ⟨b0, b1⟩ := bq2 (hO.ext (hEk) (fun f => f))
        have hsk := hEk.1
        have hl0 := sA_len s n
        have hl1 := sB_len s n
        have hl2 := sC_len s n
        have hl3 := sD_len (s := s) hnl n
        refine V_seq (fun K29 hK29 => ?_)
        refine V_sr T.mix (by kernel_rfl) (fun K30 hK30 => ?_)
        refine S_mv rfl ?_
        refine S_bin rfl rfl rfl ?_
        refine S_nil (hK30 _ _ (V_keep [1, 3, 7, 77] (by simp only [proj, lk, reduceIte, Nat.reduceEqDiff]; rfl) ?_)); clear hK30
        refine V_condp rfl (fun c112 => ?_) (fun c112 => ?_)
        · skip
          refine V_skipk [1, 3, 7] (by simp only [proj, lk, reduceIte, Nat.reduceEqDiff]; rfl) ?_
          refine hK29 _ _ ?_; clear hK29
          refine V_seq (fun K31 hK31 => ?_)
          refine V_block ?_
          refine V_sr T.mix (by kernel_rfl) (fun K32 hK32 => ?_)
          first | refine S_fa0 T.f31_1 rfl ?_ | refine S_fa T.f31_1 rfl ?_
          refine S_ldK T.ag29 rfl (fun K' hK' => ?_)
          simp (disch := omega) only [b0, b1, oP_some, Nat.add_zero]
          refine hK' _ ?_; clear hK' K'
          refine S_mv rfl ?_
          refine S_call T.hb47 rfl ?_
          refine FC.mono (wclause_spec hk C X W cl s p (wx.ext (hEh1.trans (hEk)) (fun f => f) (fun f => f)) (-1 + (n : Int))) ?_
          rintro v' h5 ⟨ca, rfl, hIc, _, hcb, hE5⟩
          have hEk5 := hEk.trans hE5
          have hs5 := hE5.1
          have hoo5 := OwnR.ext hoo hE5 (fun _ _ f => f)
          have hcl12 := clF_le hnl (-1 + (n : Int))
          try clear b0 b1
          obtain ⟨b0, b1⟩ := bq2 (hO.ext (hEk5) (fun f => f))
          refine S_mv rfl ?_
          refine S_ex rfl rfl ?_
          refine S_ex rfl rfl ?_
          refine S_as rfl ?_
          refine S_as rfl ?_
          refine S_nil (hK32 _ _ (V_keep [1, 3, 7, 8, 9] (by simp only [proj, lk, reduceIte, Nat.reduceEqDiff]; rfl) ?_)); clear hK32
          refine V_sr T.mix (by kernel_rfl) (fun K33 hK33 => ?_)
          refine S_mv rfl ?_
          refine S_mv rfl ?_
          refine S_mv rfl ?_
          refine S_lenl T.el39 rfl ?_
          refine S_bs T.ei39 rfl (by decide) (by decide) (T.bs39_2_0_1 _ _) ?_
          refine S_appx (lo := h1.size) T.ei39 T.ni39 T.us39 rfl rfl rfl (OwnR.ext hoo5 (Ext.push (fun _ => False) _ _) (fun _ _ f => f)) (by simp; omega) (cellsH_new _ _ _) rfl (by omega) (by decide) (by decide) rfl (fun a29 c29 h29 ho29 hE29x hb29x => ?_)
          have hE29 : Ext (fun z => blkA oa = some z) h5 h29 := (Ext.push _ _ _).trans hE29x
          have hb29 := new_blk2 (h := h5) hb29x (by simp)
          have hI29 : OwnR h1.size h29 a29 (sD s cl n ++ [(clE cl (-1 + (n : Int)) : Int), ((clF cl (-1 + (n : Int))).length : Int)]).length c29 (ints (sD s cl n ++ [(clE cl (-1 + (n : Int)) : Int), ((clF cl (-1 + (n : Int))).length : Int)])) 3 1 := by rw [ints_app, List.length_append]; exact ho29
          have hEn29 : Ext (fun _ => False) h1 h29 := (hEk5).step hE29 (fun z hz e => by have h9 := OwnR.blk2 hoo5 e; omega)
          have hsn29 := hEn29.1
          have hl29 : (sD s cl n ++ [(clE cl (-1 + (n : Int)) : Int), ((clF cl (-1 + (n : Int))).length : Int)]).length = (sD s cl n).length + 2 := by simp
          rw [← hl29]
          try clear b0 b1
          obtain ⟨b0, b1⟩ := bq2 (hO.ext (hEn29) (fun f => f))
          refine S_as rfl ?_
          refine S_nil (hK33 _ _ (V_keep [1, 3, 7, 8] (by simp only [proj, lk, reduceIte, Nat.reduceEqDiff]; rfl) ?_)); clear hK33
          refine V_reg T.mix (by kernel_rfl) ?_
          refine S_mv rfl ?_
          refine S_mv rfl ?_
          refine S_appx (lo := h1.size) T.ei39 T.ni39 T.us39 rfl rfl rfl hI29 (by omega) (OwnR.cells (hIc.ext hE29 (fun b e z => by have h9 := hcb b e; have h8 := (OwnR.blk2 hoo z).2; omega))) (by simp [ints]) (by omega) (by decide) (by decide) (List.all_eq_true.2 (ints_one _)) (fun a30 c30 h30 ho30 hE30 hb30 => ?_)
          have hI30 : OwnR h1.size h30 a30 ((sD s cl n ++ [(clE cl (-1 + (n : Int)) : Int), ((clF cl (-1 + (n : Int))).length : Int)]) ++ clF cl (-1 + (n : Int))).length c30 (ints ((sD s cl n ++ [(clE cl (-1 + (n : Int)) : Int), ((clF cl (-1 + (n : Int))).length : Int)]) ++ clF cl (-1 + (n : Int)))) 3 1 := by rw [ints_app, List.length_append]; exact ho30
          have hEn30 : Ext (fun _ => False) h1 h30 := (hEn29).step hE30 (fun z hz e => by have h9 := OwnR.blk2 hI29 e; omega)
          have hsn30 := hEn30.1
          try clear b0 b1
          obtain ⟨b0, b1⟩ := bq2 (hO.ext (hEn30) (fun f => f))
          refine S_as rfl ?_
          refine S_nilk [1, 3, 7] (by simp only [proj, lk, reduceIte, Nat.reduceEqDiff]; rfl) ?_
          refine hK31 _ _ ?_; clear hK31
          refine V_reg T.mix (by kernel_rfl) ?_
          refine S_mv rfl ?_
          first | refine S_add rfl rfl (by omega) (by omega) ?_ | refine S_bin rfl rfl rfl ?_
          refine S_as rfl ?_
          refine S_nilk [1, 3, 7] (by simp only [proj, lk, reduceIte, Nat.reduceEqDiff]; rfl) ?_
          exact hK28 _ _ ⟨_, by omega, n + 1, h30, a30, c30, by omega, hI30, hEn30, rfl, by rw [show (-1 : Int) + ((n + 1 : Nat) : Int) = -1 + (n : Int) + 1 by omega, show (sD s cl (n + 1)).length = (sD s cl n ++ [(clE cl (-1 + (n : Int)) : Int), ((clF cl (-1 + (n : Int))).length : Int)]).length + (clF cl (-1 + (n : Int))).length by rw [sD, List.length_append]], rfl⟩
        · skip
          have hn54 : n = 54 := by omega
          refine V_exitk [1, 3] rfl (by simp only [proj, lk, reduceIte, Nat.reduceEqDiff]; rfl) ?_
          refine hK26 _ _ ?_; clear hK26
          refine V_sr T.mix (by kernel_rfl) (fun K34 hK34 => ?_)
          first | refine S_fa0 T.f31_1 rfl ?_ | refine S_fa T.f31_1 rfl ?_
          refine S_ldK T.ag29 rfl (fun K' hK' => ?_)
          simp (disch := omega) only [b0, b1, oP_some, Nat.add_zero]
          refine hK' _ ?_; clear hK' K'
          refine S_call T.hb48 rfl ?_
          refine FC.mono (wids_spec hk C X W cl s p (wx.ext (hEh1.trans (hEk)) (fun f => f) (fun f => f))) ?_
          rintro v' h6 ⟨ia, rfl, hIi, _, hib, hE6⟩
          have hEk6 := hEk.trans hE6
          have hs6 := hE6.1
          have hoo6 := OwnR.ext hoo hE6 (fun _ _ f => f)
          try clear b0 b1
          obtain ⟨b0, b1⟩ := bq2 (hO.ext (hEk6) (fun f => f))
          refine S_as rfl ?_
          refine S_nil (hK34 _ _ (V_keep [3, 10] (by simp only [proj, lk, reduceIte, Nat.reduceEqDiff]; rfl) ?_)); clear hK34
          refine V_sr T.mix (by kernel_rfl) (fun K35 hK35 => ?_)
          refine S_mv rfl ?_
          refine S_mv rfl ?_
          refine S_lenl T.el39 rfl ?_
          refine S_bs T.ei39 rfl (by decide) (by decide) (T.bs39_1_0 _) ?_
          refine S_appx (lo := h1.size) T.ei39 T.ni39 T.us39 rfl rfl rfl (OwnR.ext hoo6 (Ext.push (fun _ => False) _ _) (fun _ _ f => f)) (by simp <;> omega) (cellsH_new _ _ _) rfl (by omega) (by decide) (by decide) rfl (fun a31 c31 h31 ho31 hE31x hb31x => ?_)
          have hE31 : Ext (fun z => blkA oa = some z) h6 h31 := (Ext.push _ _ _).trans hE31x
          have hb31 := new_blk2 (h := h6) hb31x (by simp)
          have hI31 : OwnR h1.size h31 a31 (sD s cl n ++ [((idsF cl 52).length : Int)]).length c31 (ints (sD s cl n ++ [((idsF cl 52).length : Int)])) 3 1 := by rw [ints_snoc, List.length_append]; exact ho31
          have hs31 := hE31.1
          have hEn31 : Ext (fun _ => False) h1 h31 := (hEk6).step hE31 (fun z hz e => by have h9 := OwnR.blk2 hoo6 e; omega)
          have hsn31 := hEn31.1
          have hl31 : (sD s cl n ++ [((idsF cl 52).length : Int)]).length = (sD s cl n).length + 1 := by simp
          rw [← hl31]
          try clear b0 b1
          obtain ⟨b0, b1⟩ := bq2 (hO.ext (hEn31) (fun f => f))
          refine S_as rfl ?_
          refine S_nil (hK35 _ _ (V_keep [3, 10] (by simp only [proj, lk, reduceIte, Nat.reduceEqDiff]; rfl) ?_)); clear hK35
          refine V_sr T.mix (by kernel_rfl) (fun K36 hK36 => ?_)
          refine S_mv rfl ?_
          refine S_mv rfl ?_
          refine S_appx (lo := h1.size) T.ei39 T.ni39 T.us39 rfl rfl rfl hI31 (by omega) (OwnR.cells (hIi.ext hE31 (fun b e z => by have h9 := hib b e; have h8 := (OwnR.blk2 hoo z).2; omega))) (by simp [ints]) (by omega) (by decide) (by decide) (List.all_eq_true.2 (ints_one _)) (fun a32 c32 h32 ho32 hE32 hb32 => ?_)
          have hI32 : OwnR h1.size h32 a32 ((sD s cl n ++ [((idsF cl 52).length : Int)]) ++ idsF cl 52).length c32 (ints ((sD s cl n ++ [((idsF cl 52).length : Int)]) ++ idsF cl 52)) 3 1 := by rw [ints_app, List.length_append]; exact ho32
          have hEn32 : Ext (fun _ => False) h1 h32 := (hEn31).step hE32 (fun z hz e => by have h9 := OwnR.blk2 hI31 e; omega)
          have hsn32 := hEn32.1
          refine S_as rfl ?_
          refine S_nil (hK36 _ _ (V_keep [3] (by simp only [proj, lk, reduceIte, Nat.reduceEqDiff]; rfl) ?_)); clear hK36
          refine V_sr T.mix (by kernel_rfl) (fun K37 hK37 => ?_)
          refine S_mv rfl ?_
          refine S_as rfl ?_
          refine S_nil (hK37 _ _ (V_keep [2] (by simp only [proj, lk, reduceIte, Nat.reduceEqDiff]; rfl) ?_)); clear hK37
          refine V_ret ?_
          refine hR _ _ (ret1 rfl rfl ?_)
          have hfin : shotF s cl = sD s cl n ++ [((idsF cl 52).length : Int)] ++ idsF cl 52 := by unfold shotF; rw [hn54]
          rw [hfin]
          exact ⟨a32, c32, by rw [show (sD s cl n ++ [((idsF cl 52).length : Int)] ++ idsF cl 52).length = (sD s cl n ++ [((idsF cl 52).length : Int)]).length + (idsF cl 52).length from List.length_append], own0 hI32, fun b e => by have h9 := (OwnR.blk2 hI32 e).1; omega, hEh1.trans hEn32⟩
set_option maxHeartbeats 3200000 in
theorem shotm_spec (h : Heap) (D M Y : Nat) (mm : MC) (cl : Nat → Option (List Int)) (G F : Nat → Prop) (s : TS) (mv : MV h M Y mm cl G F s) :
    FC Tryz.prog 23 (#[.agg #[.pointer (some ⟨Y, 0, none⟩), .pointer (some ⟨M, 0, none⟩), .pointer (some ⟨D, 0, none⟩)]] : Array Value) h fun rv h' => ∃ (a : Option Addr) (c : Nat), rv = .slice a (shotF s cl).length c ∧ IL h' a c (shotF s cl) ∧ (∀ b, blkA a = some b → h.size ≤ b) ∧ Ext (fun _ => False) h h' := by
  have hok : Ok s := mv.t.ok
  have hl12 := hok.len
  have hdp := hok.dep
  have hcc := hok.c
  have hnl := mr_nl mv.r
  have hidl := idsF_len cl 52
  refine FC_of [(0, .agg #[.pointer (some ⟨Y, 0, none⟩), .pointer (some ⟨M, 0, none⟩), .pointer (some ⟨D, 0, none⟩)])] Tryz.func23 rfl Tryz.ntmps23 (by simp) rfl (fun R hR => ?_)
  refine V_sr T.mix (by kernel_rfl) (fun K1 hK1 => ?_)
  refine S_boxA rfl ?_
  generalize hh : Array.push h _ = h1
  have hO : B h1 h.size #[.pointer (some ⟨Y, 0, none⟩), .pointer (some ⟨M, 0, none⟩), .pointer (some ⟨D, 0, none⟩)] 38 := by rw [← hh]; exact B.new _ _ _
  have hEh1 : Ext (fun _ => False) h h1 := by rw [← hh]; exact Ext.push _ _ _
  have hsh1 : h1.size = h.size + 1 := by rw [← hh]; simp
  clear hh
  have ho0 : OwnR h1.size h1 none ([] : List Int).length 0 (ints []) 3 1 := OwnR.nil _ _ _ _
  obtain ⟨b0, b1, b2⟩ := bq3 hO
  refine S_as rfl ?_
  refine S_nil (hK1 _ _ (V_keep [1] (by simp only [proj, lk, reduceIte, Nat.reduceEqDiff]; rfl) ?_)); clear hK1
  refine V_sr T.mix (by kernel_rfl) (fun K2 hK2 => ?_)
  first | refine S_fa0 T.f38_0 rfl ?_ | refine S_fa T.f38_0 rfl ?_
  refine S_ldK T.ag34 rfl (fun K' hK' => ?_)
  simp (disch := omega) only [b0, b1, oP_some, Nat.add_zero]
  refine hK' _ ?_; clear hK' K'
  refine S_as rfl ?_
  refine S_nil (hK2 _ _ (V_keep [1, 3] (by simp only [proj, lk, reduceIte, Nat.reduceEqDiff]; rfl) ?_)); clear hK2
  refine V_sr T.mix (by kernel_rfl) (fun K3 hK3 => ?_)
  first | refine S_fa0 T.f38_1 rfl ?_ | refine S_fa T.f38_1 rfl ?_
  refine S_ldK T.ag35 rfl (fun K' hK' => ?_)
  simp (disch := omega) only [b0, b1, oP_some, Nat.add_zero]
  refine hK' _ ?_; clear hK' K'
  refine S_as rfl ?_
  refine S_nil (hK3 _ _ (V_keep [3, 4] (by simp only [proj, lk, reduceIte, Nat.reduceEqDiff]; rfl) ?_)); clear hK3
  refine V_sr T.mix (by kernel_rfl) (fun K4 hK4 => ?_)
  refine S_as rfl ?_
  refine S_nil (hK4 _ _ (V_keep [3, 4, 5] (by simp only [proj, lk, reduceIte, Nat.reduceEqDiff]; rfl) ?_)); clear hK4
  refine V_sr T.mix (by kernel_rfl) (fun K5 hK5 => ?_)
  refine S_mv rfl ?_
  refine S_mv rfl ?_
  refine S_call T.hb49 rfl ?_
  refine FC.mono (mlevel_spec h1 Y F s (mv.ext (hEh1.trans (Ext.refl (fun _ => False) _)) (fun f => f) (fun _ _ f => f) (fun _ _ f => f)).t) ?_
  rintro v' h' ⟨rfl, rfl⟩
  refine S_bs T.ei39 rfl (by decide) (by decide) (T.bs39_1_0 _) ?_
  refine S_appx (lo := h1.size) T.ei39 T.ni39 T.us39 rfl rfl rfl (OwnR.ext ho0 (Ext.push (fun _ => False) _ _) (fun _ _ f => f)) (by simp <;> omega) (cellsH_new _ _ _) rfl (by omega) (by decide) (by decide) rfl (fun a21 c21 h21 ho21 hE21x hb21x => ?_)
  have hE21 : Ext (fun z => blkA none = some z) h1 h21 := (Ext.push _ _ _).trans hE21x
  have hb21 := new_blk2 (h := h1) hb21x (by simp)
  have hI21 : OwnR h1.size h21 a21 ([] ++ [(s.k : Int)]).length c21 (ints ([] ++ [(s.k : Int)])) 3 1 := by rw [ints_snoc, List.length_append]; exact ho21
  have hs21 := hE21.1
  have hEn21 : Ext (fun _ => False) h1 h21 := (Ext.refl (fun _ => False) _).step hE21 (fun z hz e => by have h9 := OwnR.blk2 ho0 e; omega)
  have hsn21 := hEn21.1
  refine S_as rfl ?_
  refine S_nil (hK5 _ _ (V_keep [3, 4, 5] (by simp only [proj, lk, reduceIte, Nat.reduceEqDiff]; rfl) ?_)); clear hK5
  refine V_sr T.mix (by kernel_rfl) (fun K6 hK6 => ?_)
  refine S_mv rfl ?_
  refine S_mv rfl ?_
  refine S_call T.hb50 rfl ?_
  refine FC.mono (mlen_spec h21 Y F s (mv.ext (hEh1.trans (hEn21)) (fun f => f) (fun _ _ f => f) (fun _ _ f => f)).t) ?_
  rintro v' h' ⟨rfl, rfl⟩
  refine S_bs T.ei39 rfl (by decide) (by decide) (T.bs39_1_0 _) ?_
  refine S_appx (lo := h1.size) T.ei39 T.ni39 T.us39 rfl rfl rfl (OwnR.ext hI21 (Ext.push (fun _ => False) _ _) (fun _ _ f => f)) (by simp <;> omega) (cellsH_new _ _ _) rfl (by omega) (by decide) (by decide) rfl (fun a22 c22 h22 ho22 hE22x hb22x => ?_)
  have hE22 : Ext (fun z => blkA a21 = some z) h21 h22 := (Ext.push _ _ _).trans hE22x
  have hb22 := new_blk2 (h := h21) hb22x (by simp)
  have hI22 : OwnR h1.size h22 a22 (([] ++ [(s.k : Int)]) ++ [(s.L.length : Int)]).length c22 (ints (([] ++ [(s.k : Int)]) ++ [(s.L.length : Int)])) 3 1 := by rw [ints_snoc, List.length_append]; exact ho22
  have hs22 := hE22.1
  have hEn22 : Ext (fun _ => False) h1 h22 := (hEn21).step hE22 (fun z hz e => by have h9 := OwnR.blk2 hI21 e; omega)
  have hsn22 := hEn22.1
  refine S_as rfl ?_
  refine S_nil (hK6 _ _ (V_keep [3, 4, 5] (by simp only [proj, lk, reduceIte, Nat.reduceEqDiff]; rfl) ?_)); clear hK6
  refine V_sr T.mix (by kernel_rfl) (fun K7 hK7 => ?_)
  refine S_mv rfl ?_
  refine S_mv rfl ?_
  refine S_call T.hb51 rfl ?_
  refine FC.mono (mpending_spec h22 Y F s (mv.ext (hEh1.trans (hEn22)) (fun f => f) (fun _ _ f => f) (fun _ _ f => f)).t) ?_
  rintro v' h' ⟨rfl, rfl⟩
  refine S_bs T.ei39 rfl (by decide) (by decide) (T.bs39_1_0 _) ?_
  refine S_appx (lo := h1.size) T.ei39 T.ni39 T.us39 rfl rfl rfl (OwnR.ext hI22 (Ext.push (fun _ => False) _ _) (fun _ _ f => f)) (by simp <;> omega) (cellsH_new _ _ _) rfl (by omega) (by decide) (by decide) rfl (fun a23 c23 h23 ho23 hE23x hb23x => ?_)
  have hE23 : Ext (fun z => blkA a22 = some z) h22 h23 := (Ext.push _ _ _).trans hE23x
  have hb23 := new_blk2 (h := h22) hb23x (by simp)
  have hI23 : OwnR h1.size h23 a23 (([] ++ [(s.k : Int)] ++ [(s.L.length : Int)]) ++ [((s.L.length : Int) - s.c)]).length c23 (ints (([] ++ [(s.k : Int)] ++ [(s.L.length : Int)]) ++ [((s.L.length : Int) - s.c)])) 3 1 := by rw [ints_snoc, List.length_append]; exact ho23
  have hs23 := hE23.1
  have hEn23 : Ext (fun _ => False) h1 h23 := (hEn22).step hE23 (fun z hz e => by have h9 := OwnR.blk2 hI22 e; omega)
  have hsn23 := hEn23.1
  refine S_as rfl ?_
  refine S_nil (hK7 _ _ (V_keep [3, 4, 5] (by simp only [proj, lk, reduceIte, Nat.reduceEqDiff]; rfl) ?_)); clear hK7
  refine V_seq (fun K8 hK8 => ?_)
  refine V_sr T.mix (by kernel_rfl) (fun K9 hK9 => ?_)
  refine S_as rfl ?_
  refine S_nil (hK9 _ _ (V_keep [3, 4, 5, 6] (by simp only [proj, lk, reduceIte, Nat.reduceEqDiff]; rfl) ?_)); clear hK9
  refine V_block ?_
  refine V_loop (fun m l h' => ∃ (n : Nat) (hk : Heap) (oa : Option Addr) (oc : Nat), (n ≤ 27) ∧ (OwnR h1.size hk oa (sA s n).length oc (ints (sA s n)) 3 1) ∧ (Ext (fun _ => False) h1 hk) ∧ m = 27 - n ∧ l = [(3, .pointer (some ⟨Y, 0, none⟩)), (4, .pointer (some ⟨M, 0, none⟩)), (5, .slice oa (sA s n).length oc), (6, .int .i64 (-13 + (n : Int)))] ∧ hk = h') _ ⟨0, h23, a23, c23, by omega, hI23, hEn23, rfl, rfl, rfl⟩ ?_
  rintro m l h' ⟨n, hk, oa, oc, hn, hoo, hEk, rfl, rfl, rfl⟩ K10 hK10
  have hsk := hEk.1
  have hl0 := sA_len s n
  have hl1 := sB_len s n
  have hl2 := sC_len s n
  have hl3 := sD_len (s := s) hnl n
  refine V_seq (fun K11 hK11 => ?_)
  refine V_sr T.mix (by kernel_rfl) (fun K12 hK12 => ?_)
  refine S_mv rfl ?_
  refine S_bin rfl rfl rfl ?_
  refine S_nil (hK12 _ _ (V_keep [3, 4, 5, 6, 33] (by simp only [proj, lk, reduceIte, Nat.reduceEqDiff]; rfl) ?_)); clear hK12
  refine V_condp rfl (fun c131 => ?_) (fun c131 => ?_)
  · skip
    refine V_skipk [3, 4, 5, 6] (by simp only [proj, lk, reduceIte, Nat.reduceEqDiff]; rfl) ?_
    refine hK11 _ _ ?_; clear hK11
    refine V_seq (fun K13 hK13 => ?_)
    refine V_block ?_
    refine V_reg T.mix (by kernel_rfl) ?_
    refine S_mv rfl ?_
    refine S_mv rfl ?_
    refine S_mv rfl ?_
    refine S_call T.hb52 rfl ?_
    refine FC.mono (mvalue_spec hk Y F s (mv.ext (hEh1.trans (hEk)) (fun f => f) (fun _ _ f => f) (fun _ _ f => f)).t (-13 + (n : Int))) ?_
    rintro v' h' ⟨rfl, rfl⟩
    refine S_bs T.ei39 rfl (by decide) (by decide) (T.bs39_1_0 _) ?_
    refine S_appx (lo := h1.size) T.ei39 T.ni39 T.us39 rfl rfl rfl (OwnR.ext hoo (Ext.push (fun _ => False) _ _) (fun _ _ f => f)) (by simp <;> omega) (cellsH_new _ _ _) rfl (by omega) (by decide) (by decide) rfl (fun a24 c24 h24 ho24 hE24x hb24x => ?_)
    have hE24 : Ext (fun z => blkA oa = some z) hk h24 := (Ext.push _ _ _).trans hE24x
    have hb24 := new_blk2 (h := hk) hb24x (by simp)
    have hI24 : OwnR h1.size h24 a24 (sA s n ++ [valO s (-13 + (n : Int))]).length c24 (ints (sA s n ++ [valO s (-13 + (n : Int))])) 3 1 := by rw [ints_snoc, List.length_append]; exact ho24
    have hs24 := hE24.1
    have hEn24 : Ext (fun _ => False) h1 h24 := (hEk).step hE24 (fun z hz e => by have h9 := OwnR.blk2 hoo e; omega)
    have hsn24 := hEn24.1
    refine S_as rfl ?_
    refine S_nilk [3, 4, 5, 6] (by simp only [proj, lk, reduceIte, Nat.reduceEqDiff]; rfl) ?_
    refine hK13 _ _ ?_; clear hK13
    refine V_reg T.mix (by kernel_rfl) ?_
    refine S_mv rfl ?_
    first | refine S_add rfl rfl (by omega) (by omega) ?_ | refine S_bin rfl rfl rfl ?_
    refine S_as rfl ?_
    refine S_nilk [3, 4, 5, 6] (by simp only [proj, lk, reduceIte, Nat.reduceEqDiff]; rfl) ?_
    exact hK10 _ _ ⟨_, by omega, n + 1, h24, a24, c24, by omega, hI24, hEn24, rfl, by rw [show (-13 : Int) + ((n + 1 : Nat) : Int) = -13 + (n : Int) + 1 by omega, show (sA s (n + 1)).length = (sA s n).length + 1 by simp [sA]], rfl⟩
  · skip
    have hn27 : n = 27 := by omega
    subst hn27
    refine V_exitk [3, 4, 5] rfl (by simp only [proj, lk, reduceIte, Nat.reduceEqDiff]; rfl) ?_
    refine hK8 _ _ ?_; clear hK8
    refine V_seq (fun K14 hK14 => ?_)
    refine V_sr T.mix (by kernel_rfl) (fun K15 hK15 => ?_)
    refine S_as rfl ?_
    refine S_nil (hK15 _ _ (V_keep [3, 4, 5, 7] (by simp only [proj, lk, reduceIte, Nat.reduceEqDiff]; rfl) ?_)); clear hK15
    refine V_block ?_
    refine V_loop (fun m l h' => ∃ (n : Nat) (hk : Heap) (oa : Option Addr) (oc : Nat), (n ≤ 15) ∧ (OwnR h1.size hk oa (sB s n).length oc (ints (sB s n)) 3 1) ∧ (Ext (fun _ => False) h1 hk) ∧ m = 15 - n ∧ l = [(3, .pointer (some ⟨Y, 0, none⟩)), (4, .pointer (some ⟨M, 0, none⟩)), (5, .slice oa (sB s n).length oc), (7, .int .i64 (-1 + (n : Int)))] ∧ hk = h') _ ⟨0, hk, oa, oc, by omega, hoo, hEk, rfl, rfl, rfl⟩ ?_
    rintro m l h' ⟨n, hk, oa, oc, hn, hoo, hEk, rfl, rfl, rfl⟩ K16 hK16
    have hsk := hEk.1
    have hl0 := sA_len s n
    have hl1 := sB_len s n
    have hl2 := sC_len s n
    have hl3 := sD_len (s := s) hnl n
    refine V_seq (fun K17 hK17 => ?_)
    refine V_sr T.mix (by kernel_rfl) (fun K18 hK18 => ?_)
    refine S_mv rfl ?_
    refine S_bin rfl rfl rfl ?_
    refine S_nil (hK18 _ _ (V_keep [3, 4, 5, 7, 43] (by simp only [proj, lk, reduceIte, Nat.reduceEqDiff]; rfl) ?_)); clear hK18
    refine V_condp rfl (fun c134 => ?_) (fun c134 => ?_)
    · skip
      refine V_skipk [3, 4, 5, 7] (by simp only [proj, lk, reduceIte, Nat.reduceEqDiff]; rfl) ?_
      refine hK17 _ _ ?_; clear hK17
      refine V_seq (fun K19 hK19 => ?_)
      refine V_block ?_
      refine V_sr T.mix (by kernel_rfl) (fun K20 hK20 => ?_)
      refine S_mv rfl ?_
      refine S_mv rfl ?_
      refine S_mv rfl ?_
      refine S_call T.hb53 rfl ?_
      refine FC.mono (mlevelof_spec hk Y F s (mv.ext (hEh1.trans (hEk)) (fun f => f) (fun _ _ f => f) (fun _ _ f => f)).t (-1 + (n : Int))) ?_
      rintro v' h' ⟨rfl, rfl⟩
      refine S_bs T.ei39 rfl (by decide) (by decide) (T.bs39_1_0 _) ?_
      refine S_appx (lo := h1.size) T.ei39 T.ni39 T.us39 rfl rfl rfl (OwnR.ext hoo (Ext.push (fun _ => False) _ _) (fun _ _ f => f)) (by simp <;> omega) (cellsH_new _ _ _) rfl (by omega) (by decide) (by decide) rfl (fun a25 c25 h25 ho25 hE25x hb25x => ?_)
      have hE25 : Ext (fun z => blkA oa = some z) hk h25 := (Ext.push _ _ _).trans hE25x
      have hb25 := new_blk2 (h := hk) hb25x (by simp)
      have hI25 : OwnR h1.size h25 a25 (sB s n ++ [levV s.L (-1 + (n : Int))]).length c25 (ints (sB s n ++ [levV s.L (-1 + (n : Int))])) 3 1 := by rw [ints_snoc, List.length_append]; exact ho25
      have hs25 := hE25.1
      have hEn25 : Ext (fun _ => False) h1 h25 := (hEk).step hE25 (fun z hz e => by have h9 := OwnR.blk2 hoo e; omega)
      have hsn25 := hEn25.1
      have hl25 : (sB s n ++ [levV s.L (-1 + (n : Int))]).length = (sB s n).length + 1 := by simp
      rw [← show (sB s n ++ [levV s.L (-1 + (n : Int))]).length = (sB s n).length + 1 by simp]
      refine S_as rfl ?_
      refine S_nil (hK20 _ _ (V_keep [3, 4, 5, 7] (by simp only [proj, lk, reduceIte, Nat.reduceEqDiff]; rfl) ?_)); clear hK20
      refine V_sr T.mix (by kernel_rfl) (fun K21 hK21 => ?_)
      refine S_mv rfl ?_
      refine S_mv rfl ?_
      refine S_mv rfl ?_
      refine S_call T.hb54 rfl ?_
      refine FC.mono (mreason_spec h25 Y F s (mv.ext (hEh1.trans (hEn25)) (fun f => f) (fun _ _ f => f) (fun _ _ f => f)).t (-1 + (n : Int))) ?_
      rintro v' h' ⟨rfl, rfl⟩
      refine S_bs T.ei39 rfl (by decide) (by decide) (T.bs39_1_0 _) ?_
      refine S_appx (lo := h1.size) T.ei39 T.ni39 T.us39 rfl rfl rfl (OwnR.ext hI25 (Ext.push (fun _ => False) _ _) (fun _ _ f => f)) (by simp <;> omega) (cellsH_new _ _ _) rfl (by omega) (by decide) (by decide) rfl (fun a26 c26 h26 ho26 hE26x hb26x => ?_)
      have hE26 : Ext (fun z => blkA a25 = some z) h25 h26 := (Ext.push _ _ _).trans hE26x
      have hb26 := new_blk2 (h := h25) hb26x (by simp)
      have hI26 : OwnR h1.size h26 a26 ((sB s n ++ [levV s.L (-1 + (n : Int))]) ++ [reaV s.L (-1 + (n : Int))]).length c26 (ints ((sB s n ++ [levV s.L (-1 + (n : Int))]) ++ [reaV s.L (-1 + (n : Int))])) 3 1 := by rw [ints_snoc, List.length_append]; exact ho26
      have hs26 := hE26.1
      have hEn26 : Ext (fun _ => False) h1 h26 := (hEn25).step hE26 (fun z hz e => by have h9 := OwnR.blk2 hI25 e; omega)
      have hsn26 := hEn26.1
      rw [← show (sB s n ++ [levV s.L (-1 + (n : Int))] ++ [reaV s.L (-1 + (n : Int))]).length = (sB s n ++ [levV s.L (-1 + (n : Int))]).length + 1 by simp]
      have hl26 : (sB s n ++ [levV s.L (-1 + (n : Int))] ++ [reaV s.L (-1 + (n : Int))]).length = (sB s n).length + 2 := by simp
      refine S_as rfl ?_
      refine S_nil (hK21 _ _ (V_keep [3, 4, 5, 7] (by simp only [proj, lk, reduceIte, Nat.reduceEqDiff]; rfl) ?_)); clear hK21
      refine V_reg T.mix (by kernel_rfl) ?_
      refine S_mv rfl ?_
      refine S_mv rfl ?_
      refine S_mv rfl ?_
      refine S_call T.hb55 rfl ?_
      refine FC.mono (mplace_spec h26 Y F s (mv.ext (hEh1.trans (hEn26)) (fun f => f) (fun _ _ f => f) (fun _ _ f => f)).t (-1 + (n : Int))) ?_
      rintro v' h' ⟨rfl, rfl⟩
      refine S_bs T.ei39 rfl (by decide) (by decide) (T.bs39_1_0 _) ?_
      refine S_appx (lo := h1.size) T.ei39 T.ni39 T.us39 rfl rfl rfl (OwnR.ext hI26 (Ext.push (fun _ => False) _ _) (fun _ _ f => f)) (by simp <;> omega) (cellsH_new _ _ _) rfl (by omega) (by decide) (by decide) rfl (fun a27 c27 h27 ho27 hE27x hb27x => ?_)
      have hE27 : Ext (fun z => blkA a26 = some z) h26 h27 := (Ext.push _ _ _).trans hE27x
      have hb27 := new_blk2 (h := h26) hb27x (by simp)
      have hI27 : OwnR h1.size h27 a27 ((sB s n ++ [levV s.L (-1 + (n : Int))] ++ [reaV s.L (-1 + (n : Int))]) ++ [plaV s.L (-1 + (n : Int))]).length c27 (ints ((sB s n ++ [levV s.L (-1 + (n : Int))] ++ [reaV s.L (-1 + (n : Int))]) ++ [plaV s.L (-1 + (n : Int))])) 3 1 := by rw [ints_snoc, List.length_append]; exact ho27
      have hs27 := hE27.1
      have hEn27 : Ext (fun _ => False) h1 h27 := (hEn26).step hE27 (fun z hz e => by have h9 := OwnR.blk2 hI26 e; omega)
      have hsn27 := hEn27.1
      refine S_as rfl ?_
      refine S_nilk [3, 4, 5, 7] (by simp only [proj, lk, reduceIte, Nat.reduceEqDiff]; rfl) ?_
      refine hK19 _ _ ?_; clear hK19
      refine V_reg T.mix (by kernel_rfl) ?_
      refine S_mv rfl ?_
      first | refine S_add rfl rfl (by omega) (by omega) ?_ | refine S_bin rfl rfl rfl ?_
      refine S_as rfl ?_
      refine S_nilk [3, 4, 5, 7] (by simp only [proj, lk, reduceIte, Nat.reduceEqDiff]; rfl) ?_
      exact hK16 _ _ ⟨_, by omega, n + 1, h27, a27, c27, by omega, hI27, hEn27, rfl, by rw [show (-1 : Int) + ((n + 1 : Nat) : Int) = -1 + (n : Int) + 1 by omega, show (sB s (n + 1)).length = (sB s n ++ [levV s.L (-1 + (n : Int))] ++ [reaV s.L (-1 + (n : Int))]).length + 1 by simp [sB]], rfl⟩
    · skip
      have hn15 : n = 15 := by omega
      subst hn15
      refine V_exitk [3, 4, 5] rfl (by simp only [proj, lk, reduceIte, Nat.reduceEqDiff]; rfl) ?_
      refine hK14 _ _ ?_; clear hK14
      refine V_seq (fun K22 hK22 => ?_)
      refine V_sr T.mix (by kernel_rfl) (fun K23 hK23 => ?_)
      refine S_as rfl ?_
      refine S_nil (hK23 _ _ (V_keep [3, 4, 5, 8] (by simp only [proj, lk, reduceIte, Nat.reduceEqDiff]; rfl) ?_)); clear hK23
      refine V_block ?_
      refine V_loop (fun m l h' => ∃ (n : Nat) (hk : Heap) (oa : Option Addr) (oc : Nat), (n ≤ 14) ∧ (OwnR h1.size hk oa (sC s n).length oc (ints (sC s n)) 3 1) ∧ (Ext (fun _ => False) h1 hk) ∧ m = 14 - n ∧ l = [(3, .pointer (some ⟨Y, 0, none⟩)), (4, .pointer (some ⟨M, 0, none⟩)), (5, .slice oa (sC s n).length oc), (8, .int .i64 (-1 + (n : Int)))] ∧ hk = h') _ ⟨0, hk, oa, oc, by omega, hoo, hEk, rfl, rfl, rfl⟩ ?_
      rintro m l h' ⟨n, hk, oa, oc, hn, hoo, hEk, rfl, rfl, rfl⟩ K24 hK24
      have hsk := hEk.1
      have hl0 := sA_len s n
      have hl1 := sB_len s n
      have hl2 := sC_len s n
      have hl3 := sD_len (s := s) hnl n
      refine V_seq (fun K25 hK25 => ?_)
      refine V_sr T.mix (by kernel_rfl) (fun K26 hK26 => ?_)
      refine S_mv rfl ?_
      refine S_bin rfl rfl rfl ?_
      refine S_nil (hK26 _ _ (V_keep [3, 4, 5, 8, 65] (by simp only [proj, lk, reduceIte, Nat.reduceEqDiff]; rfl) ?_)); clear hK26
      refine V_condp rfl (fun c139 => ?_) (fun c139 => ?_)
      · skip
        refine V_skipk [3, 4, 5, 8] (by simp only [proj, lk, reduceIte, Nat.reduceEqDiff]; rfl) ?_
        refine hK25 _ _ ?_; clear hK25
        refine V_seq (fun K27 hK27 => ?_)
        refine V_block ?_
        refine V_reg T.mix (by kernel_rfl) ?_
        refine S_mv rfl ?_
        refine S_mv rfl ?_
        refine S_mv rfl ?_
        refine S_call T.hb56 rfl ?_
        refine FC.mono (mat_spec hk Y F s (mv.ext (hEh1.trans (hEk)) (fun f => f) (fun _ _ f => f) (fun _ _ f => f)).t (-1 + (n : Int))) ?_
        rintro v' h' ⟨rfl, rfl⟩
        refine S_bs T.ei39 rfl (by decide) (by decide) (T.bs39_1_0 _) ?_
        refine S_appx (lo := h1.size) T.ei39 T.ni39 T.us39 rfl rfl rfl (OwnR.ext hoo (Ext.push (fun _ => False) _ _) (fun _ _ f => f)) (by simp <;> omega) (cellsH_new _ _ _) rfl (by omega) (by decide) (by decide) rfl (fun a28 c28 h28 ho28 hE28x hb28x => ?_)
        have hE28 : Ext (fun z => blkA oa = some z) hk h28 := (Ext.push _ _ _).trans hE28x
        have hb28 := new_blk2 (h := hk) hb28x (by simp)
        have hI28 : OwnR h1.size h28 a28 (sC s n ++ [atL s.L (-1 + (n : Int))]).length c28 (ints (sC s n ++ [atL s.L (-1 + (n : Int))])) 3 1 := by rw [ints_snoc, List.length_append]; exact ho28
        have hs28 := hE28.1
        have hEn28 : Ext (fun _ => False) h1 h28 := (hEk).step hE28 (fun z hz e => by have h9 := OwnR.blk2 hoo e; omega)
        have hsn28 := hEn28.1
        refine S_as rfl ?_
        refine S_nilk [3, 4, 5, 8] (by simp only [proj, lk, reduceIte, Nat.reduceEqDiff]; rfl) ?_
        refine hK27 _ _ ?_; clear hK27
        refine V_reg T.mix (by kernel_rfl) ?_
        refine S_mv rfl ?_
        first | refine S_add rfl rfl (by omega) (by omega) ?_ | refine S_bin rfl rfl rfl ?_
        refine S_as rfl ?_
        refine S_nilk [3, 4, 5, 8] (by simp only [proj, lk, reduceIte, Nat.reduceEqDiff]; rfl) ?_
        exact hK24 _ _ ⟨_, by omega, n + 1, h28, a28, c28, by omega, hI28, hEn28, rfl, by rw [show (-1 : Int) + ((n + 1 : Nat) : Int) = -1 + (n : Int) + 1 by omega, show (sC s (n + 1)).length = (sC s n).length + 1 by simp [sC]], rfl⟩
      · skip
        have hn14 : n = 14 := by omega
        subst hn14
        refine V_exitk [4, 5] rfl (by simp only [proj, lk, reduceIte, Nat.reduceEqDiff]; rfl) ?_
        refine hK22 _ _ ?_; clear hK22
        refine V_seq (fun K28 hK28 => ?_)
        refine V_sr T.mix (by kernel_rfl) (fun K29 hK29 => ?_)
        refine S_as rfl ?_
        refine S_nil (hK29 _ _ (V_keep [4, 5, 9] (by simp only [proj, lk, reduceIte, Nat.reduceEqDiff]; rfl) ?_)); clear hK29
        refine V_block ?_
        refine V_loop (fun m l h' => ∃ (n : Nat) (hk : Heap) (oa : Option Addr) (oc : Nat), (n ≤ 54) ∧ (OwnR h1.size hk oa (sD s cl n).length oc (ints (sD s cl n)) 3 1) ∧ (Ext (fun _ => False) h1 hk) ∧ m = 54 - n ∧ l = [(4, .pointer (some ⟨M, 0, none⟩)), (5, .slice oa (sD s cl n).length oc), (9, .int .i64 (-1 + (n : Int)))] ∧ hk = h') _ ⟨0, hk, oa, oc, by omega, hoo, hEk, rfl, rfl, rfl⟩ ?_
        rintro m l h' ⟨n, hk, oa, oc, hn, hoo, hEk, rfl, rfl, rfl⟩ K30 hK30
        have hsk := hEk.1
        have hl0 := sA_len s n
        have hl1 := sB_len s n
        have hl2 := sC_len s n
        have hl3 := sD_len (s := s) hnl n
        refine V_seq (fun K31 hK31 => ?_)
        refine V_sr T.mix (by kernel_rfl) (fun K32 hK32 => ?_)
        refine S_mv rfl ?_
        refine S_bin rfl rfl rfl ?_
        refine S_nil (hK32 _ _ (V_keep [4, 5, 9, 75] (by simp only [proj, lk, reduceIte, Nat.reduceEqDiff]; rfl) ?_)); clear hK32
        refine V_condp rfl (fun c142 => ?_) (fun c142 => ?_)
        · skip
          refine V_skipk [4, 5, 9] (by simp only [proj, lk, reduceIte, Nat.reduceEqDiff]; rfl) ?_
          refine hK31 _ _ ?_; clear hK31
          refine V_seq (fun K33 hK33 => ?_)
          refine V_block ?_
          refine V_sr T.mix (by kernel_rfl) (fun K34 hK34 => ?_)
          refine S_mv rfl ?_
          refine S_mv rfl ?_
          refine S_call T.hb57 rfl ?_
          refine FC.mono (mwclause_spec hk M Y mm cl G F s (mv.ext (hEh1.trans (hEk)) (fun f => f) (fun _ _ f => f) (fun _ _ f => f)) (-1 + (n : Int))) ?_
          rintro v' h5 ⟨ca, rfl, hIc, _, hcb, hE5⟩
          have hEk5 := hEk.trans hE5
          have hs5 := hE5.1
          have hoo5 := OwnR.ext hoo hE5 (fun _ _ f => f)
          have hcl12 := clF_le hnl (-1 + (n : Int))
          refine S_mv rfl ?_
          refine S_ex rfl rfl ?_
          refine S_ex rfl rfl ?_
          refine S_as rfl ?_
          refine S_as rfl ?_
          refine S_nil (hK34 _ _ (V_keep [4, 5, 9, 10, 11] (by simp only [proj, lk, reduceIte, Nat.reduceEqDiff]; rfl) ?_)); clear hK34
          refine V_sr T.mix (by kernel_rfl) (fun K35 hK35 => ?_)
          refine S_mv rfl ?_
          refine S_mv rfl ?_
          refine S_mv rfl ?_
          refine S_lenl T.el39 rfl ?_
          refine S_bs T.ei39 rfl (by decide) (by decide) (T.bs39_2_0_1 _ _) ?_
          refine S_appx (lo := h1.size) T.ei39 T.ni39 T.us39 rfl rfl rfl (OwnR.ext hoo5 (Ext.push (fun _ => False) _ _) (fun _ _ f => f)) (by simp; omega) (cellsH_new _ _ _) rfl (by omega) (by decide) (by decide) rfl (fun a29 c29 h29 ho29 hE29x hb29x => ?_)
          have hE29 : Ext (fun z => blkA oa = some z) h5 h29 := (Ext.push _ _ _).trans hE29x
          have hb29 := new_blk2 (h := h5) hb29x (by simp)
          have hI29 : OwnR h1.size h29 a29 (sD s cl n ++ [(clE cl (-1 + (n : Int)) : Int), ((clF cl (-1 + (n : Int))).length : Int)]).length c29 (ints (sD s cl n ++ [(clE cl (-1 + (n : Int)) : Int), ((clF cl (-1 + (n : Int))).length : Int)])) 3 1 := by rw [ints_app, List.length_append]; exact ho29
          have hEn29 : Ext (fun _ => False) h1 h29 := (hEk5).step hE29 (fun z hz e => by have h9 := OwnR.blk2 hoo5 e; omega)
          have hsn29 := hEn29.1
          have hl29 : (sD s cl n ++ [(clE cl (-1 + (n : Int)) : Int), ((clF cl (-1 + (n : Int))).length : Int)]).length = (sD s cl n).length + 2 := by simp
          rw [← hl29]
          refine S_as rfl ?_
          refine S_nil (hK35 _ _ (V_keep [4, 5, 9, 10] (by simp only [proj, lk, reduceIte, Nat.reduceEqDiff]; rfl) ?_)); clear hK35
          refine V_reg T.mix (by kernel_rfl) ?_
          refine S_mv rfl ?_
          refine S_mv rfl ?_
          refine S_appx (lo := h1.size) T.ei39 T.ni39 T.us39 rfl rfl rfl hI29 (by omega) (OwnR.cells (hIc.ext hE29 (fun b e z => by have h9 := hcb b e; have h8 := (OwnR.blk2 hoo z).2; omega))) (by simp [ints]) (by omega) (by decide) (by decide) (List.all_eq_true.2 (ints_one _)) (fun a30 c30 h30 ho30 hE30 hb30 => ?_)
          have hI30 : OwnR h1.size h30 a30 ((sD s cl n ++ [(clE cl (-1 + (n : Int)) : Int), ((clF cl (-1 + (n : Int))).length : Int)]) ++ clF cl (-1 + (n : Int))).length c30 (ints ((sD s cl n ++ [(clE cl (-1 + (n : Int)) : Int), ((clF cl (-1 + (n : Int))).length : Int)]) ++ clF cl (-1 + (n : Int)))) 3 1 := by rw [ints_app, List.length_append]; exact ho30
          have hEn30 : Ext (fun _ => False) h1 h30 := (hEn29).step hE30 (fun z hz e => by have h9 := OwnR.blk2 hI29 e; omega)
          have hsn30 := hEn30.1
          refine S_as rfl ?_
          refine S_nilk [4, 5, 9] (by simp only [proj, lk, reduceIte, Nat.reduceEqDiff]; rfl) ?_
          refine hK33 _ _ ?_; clear hK33
          refine V_reg T.mix (by kernel_rfl) ?_
          refine S_mv rfl ?_
          first | refine S_add rfl rfl (by omega) (by omega) ?_ | refine S_bin rfl rfl rfl ?_
          refine S_as rfl ?_
          refine S_nilk [4, 5, 9] (by simp only [proj, lk, reduceIte, Nat.reduceEqDiff]; rfl) ?_
          exact hK30 _ _ ⟨_, by omega, n + 1, h30, a30, c30, by omega, hI30, hEn30, rfl, by rw [show (-1 : Int) + ((n + 1 : Nat) : Int) = -1 + (n : Int) + 1 by omega, show (sD s cl (n + 1)).length = (sD s cl n ++ [(clE cl (-1 + (n : Int)) : Int), ((clF cl (-1 + (n : Int))).length : Int)]).length + (clF cl (-1 + (n : Int))).length by rw [sD, List.length_append]], rfl⟩
        · skip
          have hn54 : n = 54 := by omega
          refine V_exitk [4, 5] rfl (by simp only [proj, lk, reduceIte, Nat.reduceEqDiff]; rfl) ?_
          refine hK28 _ _ ?_; clear hK28
          refine V_sr T.mix (by kernel_rfl) (fun K36 hK36 => ?_)
          refine S_mv rfl ?_
          refine S_call T.hb58 rfl ?_
          refine FC.mono (mwids_spec hk M Y mm cl G F s (mv.ext (hEh1.trans (hEk)) (fun f => f) (fun _ _ f => f) (fun _ _ f => f))) ?_
          rintro v' h6 ⟨ia, rfl, hIi, _, hib, hE6⟩
          have hEk6 := hEk.trans hE6
          have hs6 := hE6.1
          have hoo6 := OwnR.ext hoo hE6 (fun _ _ f => f)
          refine S_as rfl ?_
          refine S_nil (hK36 _ _ (V_keep [5, 12] (by simp only [proj, lk, reduceIte, Nat.reduceEqDiff]; rfl) ?_)); clear hK36
          refine V_sr T.mix (by kernel_rfl) (fun K37 hK37 => ?_)
          refine S_mv rfl ?_
          refine S_mv rfl ?_
          refine S_lenl T.el39 rfl ?_
          refine S_bs T.ei39 rfl (by decide) (by decide) (T.bs39_1_0 _) ?_
          refine S_appx (lo := h1.size) T.ei39 T.ni39 T.us39 rfl rfl rfl (OwnR.ext hoo6 (Ext.push (fun _ => False) _ _) (fun _ _ f => f)) (by simp <;> omega) (cellsH_new _ _ _) rfl (by omega) (by decide) (by decide) rfl (fun a31 c31 h31 ho31 hE31x hb31x => ?_)
          have hE31 : Ext (fun z => blkA oa = some z) h6 h31 := (Ext.push _ _ _).trans hE31x
          have hb31 := new_blk2 (h := h6) hb31x (by simp)
          have hI31 : OwnR h1.size h31 a31 (sD s cl n ++ [((idsF cl 52).length : Int)]).length c31 (ints (sD s cl n ++ [((idsF cl 52).length : Int)])) 3 1 := by rw [ints_snoc, List.length_append]; exact ho31
          have hs31 := hE31.1
          have hEn31 : Ext (fun _ => False) h1 h31 := (hEk6).step hE31 (fun z hz e => by have h9 := OwnR.blk2 hoo6 e; omega)
          have hsn31 := hEn31.1
          have hl31 : (sD s cl n ++ [((idsF cl 52).length : Int)]).length = (sD s cl n).length + 1 := by simp
          rw [← hl31]
          refine S_as rfl ?_
          refine S_nil (hK37 _ _ (V_keep [5, 12] (by simp only [proj, lk, reduceIte, Nat.reduceEqDiff]; rfl) ?_)); clear hK37
          refine V_sr T.mix (by kernel_rfl) (fun K38 hK38 => ?_)
          refine S_mv rfl ?_
          refine S_mv rfl ?_
          refine S_appx (lo := h1.size) T.ei39 T.ni39 T.us39 rfl rfl rfl hI31 (by omega) (OwnR.cells (hIi.ext hE31 (fun b e z => by have h9 := hib b e; have h8 := (OwnR.blk2 hoo z).2; omega))) (by simp [ints]) (by omega) (by decide) (by decide) (List.all_eq_true.2 (ints_one _)) (fun a32 c32 h32 ho32 hE32 hb32 => ?_)
          have hI32 : OwnR h1.size h32 a32 ((sD s cl n ++ [((idsF cl 52).length : Int)]) ++ idsF cl 52).length c32 (ints ((sD s cl n ++ [((idsF cl 52).length : Int)]) ++ idsF cl 52)) 3 1 := by rw [ints_app, List.length_append]; exact ho32
          have hEn32 : Ext (fun _ => False) h1 h32 := (hEn31).step hE32 (fun z hz e => by have h9 := OwnR.blk2 hI31 e; omega)
          have hsn32 := hEn32.1
          refine S_as rfl ?_
          refine S_nil (hK38 _ _ (V_keep [5] (by simp only [proj, lk, reduceIte, Nat.reduceEqDiff]; rfl) ?_)); clear hK38
          refine V_sr T.mix (by kernel_rfl) (fun K39 hK39 => ?_)
          refine S_mv rfl ?_
          refine S_as rfl ?_
          refine S_nil (hK39 _ _ (V_keep [2] (by simp only [proj, lk, reduceIte, Nat.reduceEqDiff]; rfl) ?_)); clear hK39
          refine V_ret ?_
          refine hR _ _ (ret1 rfl rfl ?_)
          have hfin : shotF s cl = sD s cl n ++ [((idsF cl 52).length : Int)] ++ idsF cl 52 := by unfold shotF; rw [hn54]
          rw [hfin]
          exact ⟨a32, c32, by rw [show (sD s cl n ++ [((idsF cl 52).length : Int)] ++ idsF cl 52).length = (sD s cl n ++ [((idsF cl 52).length : Int)]).length + (idsF cl 52).length from List.length_append], own0 hI32, fun b e => by have h9 := (OwnR.blk2 hI32 e).1; omega, hEh1.trans hEn32⟩
end Go.Proofs.Qxb6500400aGreat
