import Derived.Test.Qxb6500403aGreatXl
set_option linter.unusedVariables false
set_option linter.unusedSimpArgs false
namespace Go.Proofs.Qxb6500403aGreat
open Go.Eng Go.Trl Go.Chk Go.Wat

theorem mvK_dec (k : Int) : mvK k ∨ ¬ mvK k := Classical.em _
theorem idsF_nodup (cl : Nat → Option (List Int)) : ∀ n, (idsF cl n).Nodup
  | 0 => by simp [idsF]
  | n + 1 => by
    rw [idsF_succ]
    split
    · refine nodup_snoc (idsF_nodup cl n) fun e => ?_
      obtain ⟨i, h1, h2, _⟩ := mem_idsF.1 e; omega
    · rw [List.append_nil]; exact idsF_nodup cl n
theorem take_notin {l : List Int} (h : l.Nodup) {i : Nat} (hi : i < l.length) : l.getD i 0 ∉ l.take i := fun e => by
  obtain ⟨j, hj, he⟩ := List.getElem_of_mem e
  rw [List.length_take] at hj
  rw [List.getElem_take] at he
  have hg : l.getD i 0 = l[i] := by simp [hi]
  rw [hg] at he
  have := (List.getElem_inj h).1 he
  omega
def gnP (u : US) (k oa : Int) : Prop := k = 3 ∧ remV u.cl u.s oa = 0
theorem last_cl {u : US} {k oa ob : Int} (h8 : k ≠ 8) {n : Nat} {c : List Int} (hn : n < 52) (hc : u.cl n = some c) : (plCl u k oa ob n = some c ∧ ¬ (gnP u k oa ∧ oa = n)) ∨ (plCl u k oa ob n = none ∧ gnP u k oa ∧ oa = n) := by
  unfold plCl gnP
  by_cases e2 : k = 2
  · rw [if_pos e2]; left
    refine ⟨?_, fun e => by omega⟩
    rcases add_cases u.cl u.rg (decide (ob ≠ 0)) with q | q | ⟨m, q⟩
    · rw [q.2.2]; exact hc
    · rw [q.2.2.2]; exact hc
    · rw [q.2.2.2.2.2, upO_ne (fun e => by rw [e, q.2.2.2.1] at hc; cases hc)]; exact hc
  · rw [if_neg e2]
    by_cases e3 : k = 3
    · rw [if_pos e3]
      rcases rem_cases u.cl u.s oa with q | ⟨m, c2, q1, q2, q3, q4, q5 | q5⟩
      · left; rw [q.2.2]; exact ⟨hc, fun e => by omega⟩
      · left; rw [q5.2.2]; exact ⟨hc, fun e => by omega⟩
      · by_cases e : n = m
        · right; subst e; rw [q5.2.2, upO_self]; exact ⟨rfl, ⟨e3, q5.2.1⟩, q1⟩
        · left; rw [q5.2.2, upO_ne e]; exact ⟨hc, fun z => by omega⟩
    · rw [if_neg e3, if_neg h8]; left; exact ⟨hc, fun e => e3 e.1.1⟩
/-- how many have gone -/
def gone (u : US) (k oa : Int) (l : List Int) : Nat := if (k = 3 ∧ remV u.cl u.s oa = 0) ∧ oa ∈ l then 1 else 0
theorem gone_le (u : US) (k oa : Int) (l : List Int) : gone u k oa l ≤ 1 := by unfold gone; split <;> omega
theorem gone_yes {u : US} {k oa : Int} {l : List Int} {i : Nat} (hi : i < l.length) (hn : l.Nodup) (hg : gnP u k oa) (ho : oa = l.getD i 0) : gone u k oa (l.take (i + 1)) = gone u k oa (l.take i) + 1 := by
  unfold gone
  rw [if_pos ⟨hg, (mem_take_snoc hi).2 (.inr ho)⟩, if_neg (fun e => take_notin hn hi (by rw [← ho]; exact e.2))]
theorem gone_no {u : US} {k oa : Int} {l : List Int} {i : Nat} (hi : i < l.length) (hg : ¬ (gnP u k oa ∧ oa = l.getD i 0)) : gone u k oa (l.take (i + 1)) = gone u k oa (l.take i) := by
  unfold gone
  by_cases e : (k = 3 ∧ remV u.cl u.s oa = 0) ∧ oa ∈ l.take i
  · rw [if_pos e, if_pos ⟨e.1, (mem_take_snoc hi).2 (.inl e.2)⟩]
  · rw [if_neg e, if_neg (fun z => by rcases (mem_take_snoc hi).1 z.2 with q | q; (exact e ⟨z.1, q⟩); (exact hg ⟨z.1, q⟩))]
theorem come_eq (u : US) {k oa ob : Int} (h8 : k ≠ 8) : (idsF (plCl u k oa ob) 52).length + gone u k oa (idsF u.cl 52) = (idsF u.cl 52).length + (if k = 2 ∧ ccE u.rg = 0 ∧ (frI u.cl (loI (decide (ob ≠ 0))) (nI (decide (ob ≠ 0)))).isSome = true then 1 else 0) := by
  by_cases e2 : k = 2
  · have hg : gone u k oa (idsF u.cl 52) = 0 := by unfold gone; rw [if_neg (by omega)]
    rw [hg]
    have hp : plCl u k oa ob = addS u.cl u.rg (decide (ob ≠ 0)) := by unfold plCl; rw [if_pos e2]
    rw [hp]
    rcases add_cases u.cl u.rg (decide (ob ≠ 0)) with q | q | ⟨m, q1, q2, q3, q4, q5, q6⟩
    · rw [q.2.2, if_neg (fun z => q.1 z.2.1)]
    · rw [q.2.2.2, if_neg (fun z => by rw [q.2.1] at z; cases z.2.2)]
    · rw [q6, idsF_up q4 52, if_pos q3, if_pos ⟨e2, q1, by rw [q2]; rfl⟩]
  · rw [if_neg (fun z => e2 z.1)]
    by_cases e3 : k = 3
    · have hp : plCl u k oa ob = remS u.cl u.s oa := by unfold plCl; rw [if_neg e2, if_pos e3]
      rw [hp]
      rcases rem_cases u.cl u.s oa with q | ⟨m, c2, q1, q2, q3, q4, q5 | q5⟩
      · rw [q.2.2, show gone u k oa (idsF u.cl 52) = 0 by unfold gone; rw [if_neg (by omega)]]
      · rw [q5.2.2, show gone u k oa (idsF u.cl 52) = 0 by unfold gone; rw [if_neg (by omega)]]
      · rw [q5.2.2, show gone u k oa (idsF u.cl 52) = 1 by unfold gone; rw [if_pos ⟨⟨e3, q5.2.1⟩, by rw [q1]; exact (mem_ids q2).2 (by rw [q3]; rfl)⟩]]
        have := idsF_dn q3 52
        rw [if_pos q2] at this; omega
    · have hp : plCl u k oa ob = u.cl := by unfold plCl; rw [if_neg e2, if_neg e3, if_neg h8]
      rw [hp, show gone u k oa (idsF u.cl 52) = 0 by unfold gone; rw [if_neg (by omega)]]
def row1 (s : TS) (j : Nat) : List Int := [(s.k : Int), (s.L.length : Int), (s.L.length : Int) - s.c] ++ (List.range j).map fun (i : Nat) => valO s ((i : Int) - 13)
def row2 (s : TS) (j : Nat) : List Int := row1 s 27 ++ (List.range j).flatMap fun (i : Nat) => [levV s.L ((i : Int) - 1), reaV s.L ((i : Int) - 1), plaV s.L ((i : Int) - 1)]
def row3 (s : TS) (j : Nat) : List Int := row2 s 15 ++ (List.range j).map fun (i : Nat) => atL s.L ((i : Int) - 1)
theorem row1_succ (s : TS) (j : Nat) : row1 s (j + 1) = row1 s j ++ [valO s ((j : Int) - 13)] := by unfold row1; rw [List.range_succ, List.map_append, List.append_assoc]; rfl
theorem row2_succ (s : TS) (j : Nat) : row2 s (j + 1) = ((row2 s j ++ [levV s.L ((j : Int) - 1)]) ++ [reaV s.L ((j : Int) - 1)]) ++ [plaV s.L ((j : Int) - 1)] := by unfold row2; rw [List.range_succ, List.flatMap_append]; simp
theorem row3_succ (s : TS) (j : Nat) : row3 s (j + 1) = row3 s j ++ [atL s.L ((j : Int) - 1)] := by unfold row3; rw [List.range_succ, List.map_append, List.append_assoc]; rfl
theorem row1_len (s : TS) : ∀ j, (row1 s j).length = 3 + j
  | 0 => by simp [row1]
  | j + 1 => by rw [row1_succ, List.length_append, row1_len s j]; simp; omega
theorem row2_len (s : TS) : ∀ j, (row2 s j).length = 30 + 3 * j
  | 0 => by simp [row2, row1_len]
  | j + 1 => by rw [row2_succ, List.length_append, List.length_append, List.length_append, row2_len s j]; simp; omega
theorem row3_len (s : TS) : ∀ j, (row3 s j).length = 75 + j
  | 0 => by simp [row3, row2_len]
  | j + 1 => by rw [row3_succ, List.length_append, row3_len s j]; simp; omega
theorem hq2 {h : Heap} {k : Nat} {x y : Value} {t : TypeId} (hB : B h k #[x, y] t) : cellH h ⟨k, 0, none⟩ = some x ∧ cellH h ⟨k, 1, none⟩ = some y ∧ ∀ j, j < 2 → okPut h ⟨k, j, none⟩ = true :=
  ⟨hB.cell 0, hB.cell 1, fun j hj => hB.ok (by simpa using hj)⟩

theorem liveL_get {cl : Nat → Option (List Int)} {i : Nat} (h : i < (idsF cl 52).length) : (liveL cl).getD i [] = clF cl ((idsF cl 52).getD i 0) := by
  unfold liveL; simp [h]
theorem cells6_0 {h : Heap} {b o : Nat} {x : Value} {l : List Value} (hc : cellsH h ⟨b, o, none⟩ 0 6 = some (x :: l)) : cellH h ⟨b, o, none⟩ = some x := by
  simp only [cellsH, add_mk, Nat.add_zero] at hc
  cases e : cellH h ⟨b, o, none⟩ with
  | none => rw [e] at hc; simp at hc
  | some y =>
    rw [e] at hc
    simp at hc
    rw [hc.2]
set_option maxHeartbeats 1600000 in
theorem hold_spec (h : Heap) (A : UA) (u : US) (hD : B h A.U (ucs A u) 48) (mm : MC) (cl : Nat → Option (List Int)) (G F : Nat → Prop) (s : TS) (mv : MV h A.M A.Y mm cl G F s) :
    FC Tryz.prog 15 (#[.pointer (some ⟨A.U, 0, none⟩)] : Array Value) h fun rv h' => ∃ ia oa oc, rv = .agg #[.slice ia (idsF cl 52).length (idsF cl 52).length, .slice oa (liveL cl).length oc] ∧ IL h' ia (idsF cl 52).length (idsF cl 52) ∧ LV h.size h'.size h' oa oc (liveL cl) ∧ (∀ b, blkA ia = some b → h.size ≤ b) ∧ Ext (fun _ => False) h h' := by
  try clear u0 u1 u2 u3 u4 u5 u6 u7 huok
  obtain ⟨u0, u1, u2, u3, u4, u5, u6, u7, huok⟩ := uq (hD)
  have hil := idsF_len cl 52
  refine FC_of [(0, .pointer (some ⟨A.U, 0, none⟩))] Tryz.func15 rfl Tryz.ntmps15 (by simp) rfl (fun R hR => ?_)
  refine V_sr T.mix (by kernel_rfl) (fun K1 hK1 => ?_)
  refine S_allocA T.z36 ?_
  generalize hh : Array.push h _ = hA
  have hRA : B hA h.size #[.slice none 0 0, .slice none 0 0] 36 := by rw [← hh]; exact B.new _ _ _
  have hEhA : Ext (fun _ => False) h hA := by rw [← hh]; exact Ext.push _ _ _
  have hshA : hA.size = h.size + 1 := by rw [← hh]; simp
  clear hh
  try clear u0 u1 u2 u3 u4 u5 u6 u7 huok
  obtain ⟨u0, u1, u2, u3, u4, u5, u6, u7, huok⟩ := uq (hD.ext hEhA (fun f => f))
  refine S_nil (hK1 _ _ (V_keep [0, 2] (by simp only [proj, lk, reduceIte, Nat.reduceEqDiff]; rfl) ?_)); clear hK1
  refine V_sr T.mix (by kernel_rfl) (fun K2 hK2 => ?_)
  refine S_mv rfl ?_
  refine S_nc rfl ?_
  first | refine S_fa0 T.f48_2 rfl ?_ | refine S_fa T.f48_2 rfl ?_
  first | refine S_fa0 T.f46_1 rfl ?_ | refine S_fa T.f46_1 rfl ?_
  refine S_ldK T.ag44 rfl (fun K' hK' => ?_)
  simp (disch := omega) only [u0, u1, u2, u3, u4, u5, u6, u7, oP_some, Nat.add_zero]
  refine hK' _ ?_; clear hK' K'
  refine S_call T.hb58 rfl ?_
  refine FC.mono (mwids_spec hA A.M A.Y mm cl G F s (mv.ext hEhA (fun f => f) (fun _ _ f => f) (fun _ _ f => f))) ?_
  rintro v' h2 ⟨a1, rfl, hI1, hn1, hb1, hE2⟩
  have hl2 := hE2.1
  have ha1 : ∀ b, blkA a1 = some b → b < h2.size := fun b e => hI1.lt e
  refine S_as rfl ?_
  refine S_nil (hK2 _ _ (V_keep [0, 2, 3] (by simp only [proj, lk, reduceIte, Nat.reduceEqDiff]; rfl) ?_)); clear hK2
  refine V_sr T.mix (by kernel_rfl) (fun K3 hK3 => ?_)
  refine S_mv rfl ?_
  refine S_bld rfl (T.bld36_0 _ _ _) ?_
  refine S_allocA T.z36 ?_
  generalize hh : Array.push h2 _ = h3
  have hV3 : B h3 h2.size #[.slice none 0 0, .slice none 0 0] 36 := by rw [← hh]; exact B.new _ _ _
  have hEh3 : Ext (fun _ => False) h2 h3 := by rw [← hh]; exact Ext.push _ _ _
  have hsh3 : h3.size = h2.size + 1 := by rw [← hh]; simp
  clear hh
  try clear v0 v1 hvok
  obtain ⟨v0, v1, hvok⟩ := hq2 (hV3)
  refine S_stl T.sz36 rfl rfl rfl rfl (fun j hj => by simp (disch := omega) only [hvok]) ?_
  generalize hh : putsH _ _ _ _ = h4
  have hV4 : B h4 (h2.size) #[.slice a1 (idsF cl 52).length (idsF cl 52).length, .slice none 0 0] 36 := by rw [← hh]; exact B.puts_all (hV3) (cs' := #[.slice a1 (idsF cl 52).length (idsF cl 52).length, .slice none 0 0]) rfl
  have hEh4 : Ext (fun k => k = h2.size) h3 h4 := by rw [← hh]; exact Ext.puts (S := fun k => k = h2.size) rfl _ _ _
  clear hh
  have hl4 := hEh4.1
  have hE04 : Ext (fun _ => False) h h4 := ((hEhA.trans hE2).trans hEh3).step hEh4 (fun b hb e => by omega)
  have hI4 := (hI1.ext hEh3 (fun _ _ f => f)).ext hEh4 (fun b e z => by have h9 := ha1 b e; omega)
  have hR4 := ((hRA.ext hE2 (fun f => f)).ext hEh3 (fun f => f)).ext hEh4 (fun e => by omega)
  refine S_nil (hK3 _ _ (V_keep [0, 2, 3, 4] (by simp only [proj, lk, reduceIte, Nat.reduceEqDiff]; rfl) ?_)); clear hK3
  refine V_seq (fun K4 hK4 => ?_)
  refine V_sr T.mix (by kernel_rfl) (fun K5 hK5 => ?_)
  refine S_as rfl ?_
  refine S_nil (hK5 _ _ (V_keep [0, 2, 3, 4, 5] (by simp only [proj, lk, reduceIte, Nat.reduceEqDiff]; rfl) ?_)); clear hK5
  refine V_block ?_
  refine V_loop (fun m l h' => ∃ (i : Nat) (hk : Heap) (oa : Option Addr) (oc hi_ : Nat), (i ≤ (idsF cl 52).length) ∧ (LV h4.size hi_ hk oa oc (((idsF cl 52).take i).map (clF cl))) ∧ (B hk h2.size #[.slice a1 (idsF cl 52).length (idsF cl 52).length, .slice oa (((idsF cl 52).take i).map (clF cl)).length oc] 36) ∧ (B hk h.size #[.slice none 0 0, .slice none 0 0] 36) ∧ (Ext (fun _ => False) h hk) ∧ (Ext (fun x => x = h2.size) h4 hk) ∧ m = (idsF cl 52).length - i ∧ l = [(0, .pointer (some ⟨A.U, 0, none⟩)), (2, .pointer (some ⟨h.size, 0, none⟩)), (3, .slice a1 (idsF cl 52).length (idsF cl 52).length), (4, .pointer (some ⟨h2.size, 0, none⟩)), (5, .int .i64 (i : Int))] ∧ hk = h') _ ⟨0, h4, none, 0, h4.size, by omega, LV.nil _ _ _ (Nat.le_refl _), hV4, hR4, hE04, Ext.refl _ _, rfl, rfl, rfl⟩ ?_
  rintro m l h' ⟨i, hk, oa, oc, hi_, hi, hlv, hVk, hRk, hEk, hE4k, rfl, rfl, rfl⟩ K6 hK6
  try clear u0 u1 u2 u3 u4 u5 u6 u7 huok
  obtain ⟨u0, u1, u2, u3, u4, u5, u6, u7, huok⟩ := uq (hD.ext hEk (fun f => f))
  try clear v0 v1 hvok
  obtain ⟨v0, v1, hvok⟩ := hq2 (hVk)
  have hsz := hEk.1
  have hsz4 := hE4k.1
  have htl : (((idsF cl 52).take i).map (clF cl)).length ≤ 52 := by rw [List.length_map, List.length_take]; omega
  refine V_seq (fun K7 hK7 => ?_)
  refine V_sr T.mix (by kernel_rfl) (fun K8 hK8 => ?_)
  refine S_mv rfl ?_
  refine S_mv rfl ?_
  refine S_lenl T.el33 rfl ?_
  refine S_bin rfl rfl rfl ?_
  refine S_nil (hK8 _ _ (V_keep [0, 2, 3, 4, 5, 19] (by simp only [proj, lk, reduceIte, Nat.reduceEqDiff]; rfl) ?_)); clear hK8
  refine V_condp rfl (fun c27 => ?_) (fun c27 => ?_)
  · skip
    obtain ⟨bb, hbe, _, _, _⟩ := hI4.get (by omega)
    have hIk := hI4.ext hE4k (fun b e z => by have h9 := ha1 b e; omega)
    rw [hbe] at hIk
    try rw [hbe]
    refine V_skipk [0, 2, 3, 4, 5] (by simp only [proj, lk, reduceIte, Nat.reduceEqDiff]; rfl) ?_
    refine hK7 _ _ ?_; clear hK7
    refine V_seq (fun K9 hK9 => ?_)
    refine V_block ?_
    refine V_sr T.mix (by kernel_rfl) (fun K10 hK10 => ?_)
    refine S_mv rfl ?_
    refine S_nc rfl ?_
    first | refine S_fa0 T.f48_2 rfl ?_ | refine S_fa T.f48_2 rfl ?_
    first | refine S_fa0 T.f46_1 rfl ?_ | refine S_fa T.f46_1 rfl ?_
    refine S_ldK T.ag44 rfl (fun K' hK' => ?_)
    simp (disch := omega) only [u3, hIk.at, oP_some, Nat.add_zero]
    refine hK' _ ?_; clear hK' K'
    refine S_mv rfl ?_
    refine S_mv rfl ?_
    first | refine S_ixn T.el33 rfl rfl (by omega) ?_ | refine S_ix1 T.el33 rfl rfl (by omega) (by omega) ?_ | refine S_ix T.el33 rfl rfl (by omega) (by omega) ?_
    refine S_ldK T.ag3 rfl (fun K' hK' => ?_)
    simp (disch := omega) only [u3, hIk.at, oP_some, Nat.add_zero]
    refine hK' _ ?_; clear hK' K'
    refine S_call T.hb59 rfl ?_
    refine FC.mono (mwclause_spec hk A.M A.Y mm cl G F s (mv.ext hEk (fun f => f) (fun _ _ f => f) (fun _ _ f => f)) ((idsF cl 52).getD i 0)) ?_
    rintro v' h6 ⟨ac, rfl, hIc, hnc, hbc, hE6⟩
    have hV6 := hVk.ext hE6 (fun f => f)
    try clear v0 v1 hvok
    obtain ⟨v0, v1, hvok⟩ := hq2 (hV6)
    refine S_mv rfl ?_
    refine S_ex rfl rfl ?_
    refine S_ex rfl rfl ?_
    refine S_as rfl ?_
    refine S_as rfl ?_
    refine S_nil (hK10 _ _ (V_keep [0, 2, 3, 4, 5, 6] (by simp only [proj, lk, reduceIte, Nat.reduceEqDiff]; rfl) ?_)); clear hK10
    refine V_reg T.mix (by kernel_rfl) ?_
    first | refine S_fa0 T.f36_1 rfl ?_ | refine S_fa T.f36_1 rfl ?_
    refine S_ldK T.ag34 rfl (fun K' hK' => ?_)
    simp (disch := omega) only [u0, u1, u2, u3, u4, u5, u6, u7, v0, v1, oP_some, Nat.add_zero]
    refine hK' _ ?_; clear hK' K'
    refine S_mv rfl ?_
    refine S_bs T.ei34 rfl (by decide) (by decide) (T.bs34_1_0 _ _ _) ?_
    have hlv6 := hlv.ext hE6 (fun z _ _ f => f)
    obtain ⟨vs, hvs⟩ := hlv6.own
    have hl6 := hE6.1
    have hlk := hlv.le
    refine S_appx (lo := h4.size) T.ei34 T.ni34 T.us34 rfl rfl rfl (OwnR.ext hvs (Ext.push (fun _ => False) _ _) (fun _ _ f => f)) (by simp; omega) (cellsH_new _ _ _) rfl (by omega) (by decide) (by decide) rfl (fun a7 c7 h7 ho7 hE7x hb7x => ?_)
    have hE7 : Ext (fun z => blkA oa = some z) h6 h7 := (Ext.push _ _ _).trans hE7x
    have hb7 := new_blk2 (h := h6) hb7x (by simp)
    have hlv7 : LV h4.size h7.size h7 a7 c7 ((((idsF cl 52).take i).map (clF cl)) ++ [clF cl ((idsF cl 52).getD i 0)]) := hlv6.snoc hvs ho7 hE7 hb7 hIc (fun z e => ⟨by have h9 := hbc z e; omega, fun q => by have h9 := hbc z e; obtain ⟨_, _, h8, _⟩ := hlv; have h7 := h8 z q; omega⟩)
    have hV7 := hV6.ext hE7 (fun e => by have h9 := (OwnR.blk2 hvs e).1; omega)
    have hl7 := hE7.1
    try clear v0 v1 hvok
    obtain ⟨v0, v1, hvok⟩ := hq2 (hV7)
    first | refine S_fa0 T.f36_1 rfl ?_ | refine S_fa T.f36_1 rfl ?_
    refine S_st T.sz34 rfl rfl rfl rfl (by simp (disch := omega) only [hvok]) ?_
    generalize hh : putH _ _ _ = h8
    have hV8 : B h8 h2.size #[.slice a1 (idsF cl 52).length (idsF cl 52).length, .slice a7 ((((idsF cl 52).take i).map (clF cl)) ++ [clF cl ((idsF cl 52).getD i 0)]).length c7] 36 := by rw [← hh]; exact (hV7.put 1 _).cong (by simp)
    have hE8 : Ext (fun x => x = h2.size) h7 h8 := by rw [← hh]; exact Ext.put _ _ rfl
    clear hh
    refine S_nilk [0, 2, 3, 4, 5] (by simp only [proj, lk, reduceIte, Nat.reduceEqDiff]; rfl) ?_
    refine hK9 _ _ ?_; clear hK9
    refine V_reg T.mix (by kernel_rfl) ?_
    refine S_mv rfl ?_
    first | refine S_add rfl rfl (by omega) (by omega) ?_ | refine S_bin rfl rfl rfl ?_
    refine S_as rfl ?_
    refine S_nilk [0, 2, 3, 4, 5] (by simp only [proj, lk, reduceIte, Nat.reduceEqDiff]; rfl) ?_
    try rw [← hbe]
    exact hK6 _ _ ⟨_, by omega, i + 1, h8, a7, c7, h7.size, by omega, (by rw [getD_snoc _ _ (by omega), List.map_append]; exact hlv7.ext hE8 (fun z q1 q2 e => by omega)), (by rw [getD_snoc _ _ (by omega), List.map_append]; exact hV8), ((hRk.ext hE6 (fun f => f)).ext hE7 (fun e => by have h9 := (OwnR.blk2 hvs e).1; omega)).ext hE8 (fun e => by omega), ((hEk.trans hE6).step hE7 (fun z hz e => by have h9 := (OwnR.blk2 hvs e).1; omega)).step hE8 (fun z hz e => by omega), ((hE4k.trans (hE6.mono fun _ f => f.elim)).step hE7 (fun z hz e => by have h9 := (OwnR.blk2 hvs e).1; omega)).trans hE8, rfl, rfl, rfl⟩
  · skip
    have hrok : ∀ j, j < 2 → okPut hk ⟨h.size, j, none⟩ = true := fun j hj => hRk.ok (by simpa using hj)
    refine V_exitk [2, 4] rfl (by simp only [proj, lk, reduceIte, Nat.reduceEqDiff]; rfl) ?_
    refine hK4 _ _ ?_; clear hK4
    refine V_sr T.mix (by kernel_rfl) (fun K11 hK11 => ?_)
    refine S_ldn T.ag36 rfl (hVk.all rfl) ?_
    refine S_stl T.sz36 rfl rfl rfl rfl (fun j hj => by simp (disch := omega) only [hrok]) ?_
    generalize hh : putsH _ _ _ _ = h9
    have hR9 : B h9 (h.size) #[.slice a1 (idsF cl 52).length (idsF cl 52).length, .slice oa (((idsF cl 52).take i).map (clF cl)).length oc] 36 := by rw [← hh]; exact B.puts_all (hRk) (cs' := #[.slice a1 (idsF cl 52).length (idsF cl 52).length, .slice oa (((idsF cl 52).take i).map (clF cl)).length oc]) rfl
    have hEh9 : Ext (fun k => k = h.size) hk h9 := by rw [← hh]; exact Ext.puts (S := fun k => k = h.size) rfl _ _ _
    clear hh
    refine S_nil (hK11 _ _ (V_keep [2] (by simp only [proj, lk, reduceIte, Nat.reduceEqDiff]; rfl) ?_)); clear hK11
    refine V_ret ?_
    refine hR _ _ (retc1 rfl rfl T.ag36 hR9 (by rfl) ?_)
    have hie : i = (idsF cl 52).length := by omega
    rw [hie, List.take_length] at hlv ⊢
    exact ⟨a1, oa, oc, rfl, (hI4.ext hE4k (fun b e z => by have h9 := ha1 b e; omega)).ext hEh9 (fun b e z => by have h9 := hb1 b e; omega), (hlv.ext hEh9 (fun z q1 q2 e => by omega)).wid (by omega) (by have h9 := hlv.le; have h8 := hEh9.1; omega) (Nat.le_refl _), fun b e => by have h9 := hb1 b e; omega, hEk.step hEh9 (fun b hb e => by omega)⟩
set_option maxHeartbeats 400000 in
theorem roomn_spec (h : Heap) (cl : Nat → Option (List Int)) (ia : Option Addr) (hI : IL h ia (idsF cl 52).length (idsF cl 52)) (le : Bool) :
    FC Tryz.prog 61 (#[.slice ia (idsF cl 52).length (idsF cl 52).length, .bool (decide (le = true))] : Array Value) h fun rv h' => rv = .bool (decide ((frI cl (loI le) (nI le)).isSome = true)) ∧ h = h' := by
  have hil := idsF_len cl 52
  refine FC_of [(0, .slice ia (idsF cl 52).length (idsF cl 52).length), (1, .bool (decide (le = true)))] Tryz.func61 rfl Tryz.ntmps61 (by simp) rfl (fun R hR => ?_)
  refine V_sr T.mix (by kernel_rfl) (fun K1 hK1 => ?_)
  refine S_as rfl ?_
  refine S_nil (hK1 _ _ (V_keep [0, 1] (by simp only [proj, lk, reduceIte, Nat.reduceEqDiff]; rfl) ?_)); clear hK1
  refine V_sr T.mix (by kernel_rfl) (fun K2 hK2 => ?_)
  refine S_as rfl ?_
  refine S_nil (hK2 _ _ (V_keep [0, 1, 5] (by simp only [proj, lk, reduceIte, Nat.reduceEqDiff]; rfl) ?_)); clear hK2
  refine V_sr T.mix (by kernel_rfl) (fun K3 hK3 => ?_)
  refine S_as rfl ?_
  refine S_nil (hK3 _ _ (V_keep [0, 1, 5, 6] (by simp only [proj, lk, reduceIte, Nat.reduceEqDiff]; rfl) ?_)); clear hK3
  refine V_seqJ (fun l h' => ∃ (lo hi_ : Nat), (lo = loI le) ∧ (hi_ = loI le + nI le) ∧ (lo ≤ hi_ ∧ hi_ ≤ 52) ∧ l = [(0, .slice ia (idsF cl 52).length (idsF cl 52).length), (5, .int .i64 (lo : Int)), (6, .int .i64 (hi_ : Int))] ∧ h = h') ?_ ?_
  · skip
    refine V_sr T.mix (by kernel_rfl) (fun K5 hK5 => ?_)
    refine S_mv rfl ?_
    refine S_nil (hK5 _ _ (V_keep [0, 5, 6, 8] (by simp only [proj, lk, reduceIte, Nat.reduceEqDiff]; rfl) ?_)); clear hK5
    refine V_condp rfl (fun c38 => ?_) (fun c38 => ?_)
    · skip
      refine V_sr T.mix (by kernel_rfl) (fun K6 hK6 => ?_)
      refine S_as rfl ?_
      refine S_nil (hK6 _ _ (V_keep [0, 5] (by simp only [proj, lk, reduceIte, Nat.reduceEqDiff]; rfl) ?_)); clear hK6
      refine V_reg T.mix (by kernel_rfl) ?_
      refine S_as rfl ?_
      refine S_nilk [0, 5, 6] (by simp only [proj, lk, reduceIte, Nat.reduceEqDiff]; rfl) ?_
      exact ⟨40, 52, by rw [show le = true from c38]; rfl, by rw [show le = true from c38]; rfl, by omega, rfl, rfl⟩
    · skip
      refine V_skipk [0, 5, 6] (by simp only [proj, lk, reduceIte, Nat.reduceEqDiff]; rfl) ?_
      exact ⟨0, 40, by rw [show le = false by simpa using c38]; rfl, by rw [show le = false by simpa using c38]; rfl, by omega, rfl, rfl⟩
  rintro l h' ⟨lo, hi_, hlo, hhi, hbb, rfl, rfl⟩
  refine V_seq (fun K7 hK7 => ?_)
  refine V_sr T.mix (by kernel_rfl) (fun K8 hK8 => ?_)
  refine S_mv rfl ?_
  refine S_as rfl ?_
  refine S_nil (hK8 _ _ (V_keep [0, 6, 7] (by simp only [proj, lk, reduceIte, Nat.reduceEqDiff]; rfl) ?_)); clear hK8
  refine V_block ?_
  refine V_loop (fun m l h' => ∃ (i : Nat), (lo ≤ i) ∧ (i ≤ hi_) ∧ (∀ j, lo ≤ j → j < i → (cl j).isSome = true) ∧ m = hi_ - i ∧ l = [(0, .slice ia (idsF cl 52).length (idsF cl 52).length), (6, .int .i64 (hi_ : Int)), (7, .int .i64 (i : Int))] ∧ h = h') _ ⟨lo, by omega, by omega, fun j h1 h2 => by omega, rfl, rfl, rfl⟩ ?_
  rintro m l h' ⟨i, hi1, hi2, hn, rfl, rfl, rfl⟩ K9 hK9
  refine V_seq (fun K10 hK10 => ?_)
  refine V_sr T.mix (by kernel_rfl) (fun K11 hK11 => ?_)
  refine S_mv rfl ?_
  refine S_mv rfl ?_
  refine S_bin rfl rfl rfl ?_
  refine S_nil (hK11 _ _ (V_keep [0, 6, 7, 12] (by simp only [proj, lk, reduceIte, Nat.reduceEqDiff]; rfl) ?_)); clear hK11
  refine V_condp rfl (fun c42 => ?_) (fun c42 => ?_)
  · skip
    refine V_skipk [0, 6, 7] (by simp only [proj, lk, reduceIte, Nat.reduceEqDiff]; rfl) ?_
    refine hK10 _ _ ?_; clear hK10
    refine V_seq (fun K12 hK12 => ?_)
    refine V_block ?_
    refine V_sr T.mix (by kernel_rfl) (fun K13 hK13 => ?_)
    refine S_mv rfl ?_
    refine S_mv rfl ?_
    refine S_call T.hb95 rfl ?_
    refine FC.mono (in_spec h ia _ (idsF cl 52) hI (by omega) (i : Int)) ?_
    rintro v' h' ⟨rfl, rfl⟩
    refine S_notb rfl ?_
    refine S_nil (hK13 _ _ (V_keep [0, 6, 7, 18] (by simp only [proj, lk, reduceIte, Nat.reduceEqDiff]; rfl) ?_)); clear hK13
    refine V_condb rfl (fun c43 => ?_) (fun c43 => ?_)
    · skip
      have hin : (cl i).isSome = false := by
        cases e : (cl i).isSome with
        | false => rfl
        | true => have h9 := (mem_ids (cl := cl) (k := i) (by omega)).2 e; simp [h9] at c43
      refine V_sr T.mix (by kernel_rfl) (fun K14 hK14 => ?_)
      refine S_as rfl ?_
      refine S_nil (hK14 _ _ (V_keep [4] (by simp only [proj, lk, reduceIte, Nat.reduceEqDiff]; rfl) ?_)); clear hK14
      refine V_ret ?_
      refine hR _ _ (ret1 rfl rfl ?_)
      exact ⟨by rw [frI_hit (nI le) (loI le) (by omega) (by omega) hin (fun j h1 h2 => hn j (by omega) h2)]; rfl, rfl⟩
    · skip
      have hin : (cl i).isSome = true := (mem_ids (by omega)).1 (by simpa using c43)
      refine V_skipk [0, 6, 7] (by simp only [proj, lk, reduceIte, Nat.reduceEqDiff]; rfl) ?_
      refine hK12 _ _ ?_; clear hK12
      refine V_reg T.mix (by kernel_rfl) ?_
      refine S_mv rfl ?_
      first | refine S_add rfl rfl (by omega) (by omega) ?_ | refine S_bin rfl rfl rfl ?_
      refine S_as rfl ?_
      refine S_nilk [0, 6, 7] (by simp only [proj, lk, reduceIte, Nat.reduceEqDiff]; rfl) ?_
      exact hK9 _ _ ⟨_, by omega, i + 1, by omega, by omega, fun j h1 h2 => by by_cases e : j = i; (rw [e]; exact hin); (exact hn j h1 (by omega)), rfl, rfl, rfl⟩
  · skip
    refine V_exitk [] rfl (by simp only [proj, lk, reduceIte, Nat.reduceEqDiff]; rfl) ?_
    refine hK7 _ _ ?_; clear hK7
    refine V_sr T.mix (by kernel_rfl) (fun K15 hK15 => ?_)
    refine S_as rfl ?_
    refine S_nil (hK15 _ _ (V_keep [4] (by simp only [proj, lk, reduceIte, Nat.reduceEqDiff]; rfl) ?_)); clear hK15
    refine V_ret ?_
    refine hR _ _ (ret1 rfl rfl ?_)
    exact ⟨by rw [frI_no (nI le) (loI le) (fun j h1 h2 => hn j (by omega) (by omega))]; rfl, rfl⟩
set_option maxHeartbeats 400000 in
theorem moves_spec (h : Heap) (k : Int) :
    FC Tryz.prog 19 (#[.int .i64 k] : Array Value) h fun rv h' => ∃ g : Bool, rv = .bool g ∧ (g = true ↔ mvK k) ∧ h = h' := by
  refine FC_of [(0, .int .i64 k)] Tryz.func19 rfl Tryz.ntmps19 (by simp) rfl (fun R hR => ?_)
  refine V_sr T.mix (by kernel_rfl) (fun K1 hK1 => ?_)
  refine S_as rfl ?_
  refine S_nil (hK1 _ _ (V_keep [0] (by simp only [proj, lk, reduceIte, Nat.reduceEqDiff]; rfl) ?_)); clear hK1
  refine V_seq (fun K2 hK2 => ?_)
  refine V_sr T.mix (by kernel_rfl) (fun K3 hK3 => ?_)
  refine S_mv rfl ?_
  refine S_bin rfl rfl rfl ?_
  refine S_nil (hK3 _ _ (V_keep [0, 4] (by simp only [proj, lk, reduceIte, Nat.reduceEqDiff]; rfl) ?_)); clear hK3
  refine V_condp rfl (fun c110 => ?_) (fun c110 => ?_)
  · skip
    refine V_sr T.mix (by kernel_rfl) (fun K4 hK4 => ?_)
    refine S_as rfl ?_
    refine S_nil (hK4 _ _ (V_keep [2] (by simp only [proj, lk, reduceIte, Nat.reduceEqDiff]; rfl) ?_)); clear hK4
    refine V_ret ?_
    refine hR _ _ (ret1 rfl rfl ?_)
    exact ⟨true, rfl, ⟨fun _ => .inl c110, fun _ => rfl⟩, rfl⟩
  · skip
    refine V_skipk [0] (by simp only [proj, lk, reduceIte, Nat.reduceEqDiff]; rfl) ?_
    refine hK2 _ _ ?_; clear hK2
    refine V_sr T.mix (by kernel_rfl) (fun K5 hK5 => ?_)
    refine S_mv rfl ?_
    refine S_bin rfl rfl rfl ?_
    refine S_mv rfl ?_
    refine S_dec (fun g113 => ?_) (fun g113 => ?_)
    · skip
      refine S_gf rfl ?_
      refine S_gf rfl ?_
      refine S_pt rfl rfl ?_
      refine S_mv rfl ?_
      refine S_gf rfl ?_
      refine S_gf rfl ?_
      refine S_pt rfl rfl ?_
      refine S_mv rfl ?_
      refine S_gf rfl ?_
      refine S_gf rfl ?_
      refine S_pt rfl rfl ?_
      refine S_as rfl ?_
      refine S_nil (hK5 _ _ (V_keep [2] (by simp only [proj, lk, reduceIte, Nat.reduceEqDiff]; rfl) ?_)); clear hK5
      refine V_ret ?_
      refine hR _ _ (ret1 rfl rfl ?_)
      refine ⟨_, rfl, ?_, rfl⟩
      unfold mvK
      simp
      try omega
    · skip
      refine S_gt rfl ?_
      refine S_mv rfl ?_
      refine S_gt rfl ?_
      refine S_bin rfl rfl rfl ?_
      refine S_pf rfl rfl ?_
      refine S_mv rfl ?_
      refine S_dec (fun g113a => ?_) (fun g113a => ?_)
      · skip
        refine S_gf rfl ?_
        refine S_gf rfl ?_
        refine S_pt rfl rfl ?_
        refine S_mv rfl ?_
        refine S_gf rfl ?_
        refine S_gf rfl ?_
        refine S_pt rfl rfl ?_
        refine S_as rfl ?_
        refine S_nil (hK5 _ _ (V_keep [2] (by simp only [proj, lk, reduceIte, Nat.reduceEqDiff]; rfl) ?_)); clear hK5
        refine V_ret ?_
        refine hR _ _ (ret1 rfl rfl ?_)
        refine ⟨_, rfl, ?_, rfl⟩
        unfold mvK
        simp
        try omega
      · skip
        refine S_gt rfl ?_
        refine S_mv rfl ?_
        refine S_gt rfl ?_
        refine S_bin rfl rfl rfl ?_
        refine S_pf rfl rfl ?_
        refine S_mv rfl ?_
        refine S_dec (fun g113b => ?_) (fun g113b => ?_)
        · skip
          refine S_gf rfl ?_
          refine S_gf rfl ?_
          refine S_pt rfl rfl ?_
          refine S_as rfl ?_
          refine S_nil (hK5 _ _ (V_keep [2] (by simp only [proj, lk, reduceIte, Nat.reduceEqDiff]; rfl) ?_)); clear hK5
          refine V_ret ?_
          refine hR _ _ (ret1 rfl rfl ?_)
          refine ⟨_, rfl, ?_, rfl⟩
          unfold mvK
          simp
          try omega
        · skip
          refine S_gt rfl ?_
          refine S_mv rfl ?_
          refine S_gt rfl ?_
          refine S_bin rfl rfl rfl ?_
          refine S_pf rfl rfl ?_
          refine S_as rfl ?_
          refine S_nil (hK5 _ _ (V_keep [2] (by simp only [proj, lk, reduceIte, Nat.reduceEqDiff]; rfl) ?_)); clear hK5
          refine V_ret ?_
          refine hR _ _ (ret1 rfl rfl ?_)
          refine ⟨_, rfl, ?_, rfl⟩
          unfold mvK
          simp
          try omega
set_option maxHeartbeats 400000 in
theorem bare_spec (h : Heap) (tg : Nat → Nat) (A : UA) (u : US) (nb : Nat) (w : UI h tg A u nb) (hcl : u.cl = fun _ => none) (hs : u.s = ⟨[], 0, 0⟩) :
    FC Tryz.prog 14 (#[.pointer (some ⟨A.U, 0, none⟩)] : Array Value) h fun rv h' => rv = .bool true ∧ Ext (fun _ => False) h h' := by
  try clear u0 u1 u2 u3 u4 u5 u6 u7 huok
  obtain ⟨u0, u1, u2, u3, u4, u5, u6, u7, huok⟩ := uq (w.dd)
  refine FC_of [(0, .pointer (some ⟨A.U, 0, none⟩))] Tryz.func14 rfl Tryz.ntmps14 (by simp) rfl (fun R hR => ?_)
  refine V_sr T.mix (by kernel_rfl) (fun K1 hK1 => ?_)
  refine S_as rfl ?_
  refine S_nil (hK1 _ _ (V_keep [0] (by simp only [proj, lk, reduceIte, Nat.reduceEqDiff]; rfl) ?_)); clear hK1
  refine V_seq (fun K2 hK2 => ?_)
  refine V_sr T.mix (by kernel_rfl) (fun K3 hK3 => ?_)
  refine S_mv rfl ?_
  refine S_call T.hb12 rfl ?_
  refine FC.mono (sametrails_spec h tg A u nb w) ?_
  rintro v' h' ⟨rfl, rfl⟩
  refine S_notb rfl ?_
  refine S_nil (hK3 _ _ (V_keep [0, 7] (by simp only [proj, lk, reduceIte, Nat.reduceEqDiff]; rfl) ?_)); clear hK3
  refine V_condb rfl (fun c118 => ?_) (fun c118 => ?_)
  · skip
    cases c118
  · skip
    refine V_skipk [0] (by simp only [proj, lk, reduceIte, Nat.reduceEqDiff]; rfl) ?_
    refine hK2 _ _ ?_; clear hK2
    refine V_sr T.mix (by kernel_rfl) (fun K4 hK4 => ?_)
    refine S_mv rfl ?_
    refine S_nc rfl ?_
    first | refine S_fa0 T.f48_2 rfl ?_ | refine S_fa T.f48_2 rfl ?_
    first | refine S_fa0 T.f46_0 rfl ?_ | refine S_fa T.f46_0 rfl ?_
    refine S_ldK T.ag43 rfl (fun K' hK' => ?_)
    simp (disch := omega) only [u0, u1, u2, u3, u4, u5, u6, u7, oP_some, Nat.add_zero]
    refine hK' _ ?_; clear hK' K'
    refine S_call T.hb45 rfl ?_
    refine FC.mono (mlen_spec h A.Y u.F u.s w.mv.t) ?_
    rintro v' h' ⟨rfl, rfl⟩
    refine S_as rfl ?_
    refine S_nil (hK4 _ _ (V_keep [0, 3] (by simp only [proj, lk, reduceIte, Nat.reduceEqDiff]; rfl) ?_)); clear hK4
    refine V_seq (fun K5 hK5 => ?_)
    refine V_sr T.mix (by kernel_rfl) (fun K6 hK6 => ?_)
    refine S_mv rfl ?_
    refine S_bin rfl rfl rfl ?_
    refine S_nil (hK6 _ _ (V_keep [0, 15] (by simp only [proj, lk, reduceIte, Nat.reduceEqDiff]; rfl) ?_)); clear hK6
    refine V_condp rfl (fun c122 => ?_) (fun c122 => ?_)
    · skip
      exfalso; exact c122 (by rw [hs]; rfl)
    · skip
      refine V_skipk [0] (by simp only [proj, lk, reduceIte, Nat.reduceEqDiff]; rfl) ?_
      refine hK5 _ _ ?_; clear hK5
      refine V_sr T.mix (by kernel_rfl) (fun K7 hK7 => ?_)
      refine S_mv rfl ?_
      refine S_nc rfl ?_
      first | refine S_fa0 T.f48_2 rfl ?_ | refine S_fa T.f48_2 rfl ?_
      first | refine S_fa0 T.f46_0 rfl ?_ | refine S_fa T.f46_0 rfl ?_
      refine S_ldK T.ag43 rfl (fun K' hK' => ?_)
      simp (disch := omega) only [u0, u1, u2, u3, u4, u5, u6, u7, oP_some, Nat.add_zero]
      refine hK' _ ?_; clear hK' K'
      refine S_call T.hb43 rfl ?_
      refine FC.mono (mlevel_spec h A.Y u.F u.s w.mv.t) ?_
      rintro v' h' ⟨rfl, rfl⟩
      refine S_as rfl ?_
      refine S_nil (hK7 _ _ (V_keep [0, 3] (by simp only [proj, lk, reduceIte, Nat.reduceEqDiff]; rfl) ?_)); clear hK7
      refine V_seq (fun K8 hK8 => ?_)
      refine V_sr T.mix (by kernel_rfl) (fun K9 hK9 => ?_)
      refine S_mv rfl ?_
      refine S_bin rfl rfl rfl ?_
      refine S_nil (hK9 _ _ (V_keep [0, 23] (by simp only [proj, lk, reduceIte, Nat.reduceEqDiff]; rfl) ?_)); clear hK9
      refine V_condp rfl (fun c126 => ?_) (fun c126 => ?_)
      · skip
        exfalso; exact c126 (by rw [hs]; rfl)
      · skip
        refine V_skipk [0] (by simp only [proj, lk, reduceIte, Nat.reduceEqDiff]; rfl) ?_
        refine hK8 _ _ ?_; clear hK8
        refine V_sr T.mix (by kernel_rfl) (fun K10 hK10 => ?_)
        refine S_mv rfl ?_
        refine S_nc rfl ?_
        first | refine S_fa0 T.f48_2 rfl ?_ | refine S_fa T.f48_2 rfl ?_
        first | refine S_fa0 T.f46_0 rfl ?_ | refine S_fa T.f46_0 rfl ?_
        refine S_ldK T.ag43 rfl (fun K' hK' => ?_)
        simp (disch := omega) only [u0, u1, u2, u3, u4, u5, u6, u7, oP_some, Nat.add_zero]
        refine hK' _ ?_; clear hK' K'
        refine S_call T.hb47 rfl ?_
        refine FC.mono (mpending_spec h A.Y u.F u.s w.mv.t) ?_
        rintro v' h' ⟨rfl, rfl⟩
        refine S_as rfl ?_
        refine S_nil (hK10 _ _ (V_keep [0, 3] (by simp only [proj, lk, reduceIte, Nat.reduceEqDiff]; rfl) ?_)); clear hK10
        refine V_seq (fun K11 hK11 => ?_)
        refine V_sr T.mix (by kernel_rfl) (fun K12 hK12 => ?_)
        refine S_mv rfl ?_
        refine S_bin rfl rfl rfl ?_
        refine S_nil (hK12 _ _ (V_keep [0, 31] (by simp only [proj, lk, reduceIte, Nat.reduceEqDiff]; rfl) ?_)); clear hK12
        refine V_condp rfl (fun c130 => ?_) (fun c130 => ?_)
        · skip
          exfalso; exact c130 (by rw [hs]; rfl)
        · skip
          refine V_skipk [0] (by simp only [proj, lk, reduceIte, Nat.reduceEqDiff]; rfl) ?_
          refine hK11 _ _ ?_; clear hK11
          refine V_sr T.mix (by kernel_rfl) (fun K13 hK13 => ?_)
          refine S_mv rfl ?_
          refine S_nc rfl ?_
          first | refine S_fa0 T.f48_2 rfl ?_ | refine S_fa T.f48_2 rfl ?_
          first | refine S_fa0 T.f46_1 rfl ?_ | refine S_fa T.f46_1 rfl ?_
          refine S_ldK T.ag44 rfl (fun K' hK' => ?_)
          simp (disch := omega) only [u0, u1, u2, u3, u4, u5, u6, u7, oP_some, Nat.add_zero]
          refine hK' _ ?_; clear hK' K'
          refine S_call T.hb58 rfl ?_
          refine FC.mono (mwids_spec h A.M A.Y u.mm u.cl u.G u.F u.s w.mv) ?_
          rintro v' h1 ⟨a1, rfl, hI1, hn1, hb1, hE1⟩
          have hnil : idsF u.cl 52 = [] := by rw [hcl]; decide
          refine S_as rfl ?_
          refine S_nil (hK13 _ _ (V_keep [4] (by simp only [proj, lk, reduceIte, Nat.reduceEqDiff]; rfl) ?_)); clear hK13
          refine V_sr T.mix (by kernel_rfl) (fun K14 hK14 => ?_)
          refine S_mv rfl ?_
          refine S_lenl T.el33 rfl ?_
          refine S_bin rfl rfl rfl ?_
          refine S_as rfl ?_
          refine S_nil (hK14 _ _ (V_keep [2] (by simp only [proj, lk, reduceIte, Nat.reduceEqDiff]; rfl) ?_)); clear hK14
          refine V_ret ?_
          refine hR _ _ (ret1 rfl rfl ?_)
          exact ⟨by rw [hnil]; rfl, hE1⟩
set_option maxHeartbeats 3200000 in
theorem row_spec (h : Heap) (A : UA) (u : US) (hD : B h A.U (ucs A u) 48) (mm : MC) (cl : Nat → Option (List Int)) (G F : Nat → Prop) (s : TS) (mv : MV h A.M A.Y mm cl G F s) :
    FC Tryz.prog 17 (#[.pointer (some ⟨A.U, 0, none⟩)] : Array Value) h fun rv h' => ∃ a' c', rv = .slice a' (row3 s 14).length c' ∧ OwnR h.size h' a' (row3 s 14).length c' (ints (row3 s 14)) 3 1 ∧ Ext (fun _ => False) h h' := by
  try clear u0 u1 u2 u3 u4 u5 u6 u7 huok
  obtain ⟨u0, u1, u2, u3, u4, u5, u6, u7, huok⟩ := uq (hD)
  have hl12 := mv.t.ok.len
  have hE0 := Ext.refl (fun _ => False) h
  refine FC_of [(0, .pointer (some ⟨A.U, 0, none⟩))] Tryz.func17 rfl Tryz.ntmps17 (by simp) rfl (fun R hR => ?_)
  refine V_sr T.mix (by kernel_rfl) (fun K1 hK1 => ?_)
  refine S_as rfl ?_
  refine S_nil (hK1 _ _ (V_keep [0] (by simp only [proj, lk, reduceIte, Nat.reduceEqDiff]; rfl) ?_)); clear hK1
  refine V_sr T.mix (by kernel_rfl) (fun K2 hK2 => ?_)
  refine S_as rfl ?_
  refine S_nil (hK2 _ _ (V_keep [0, 3] (by simp only [proj, lk, reduceIte, Nat.reduceEqDiff]; rfl) ?_)); clear hK2
  refine V_sr T.mix (by kernel_rfl) (fun K3 hK3 => ?_)
  refine S_mv rfl ?_
  refine S_nc rfl ?_
  first | refine S_fa0 T.f48_2 rfl ?_ | refine S_fa T.f48_2 rfl ?_
  first | refine S_fa0 T.f46_0 rfl ?_ | refine S_fa T.f46_0 rfl ?_
  refine S_ldK T.ag43 rfl (fun K' hK' => ?_)
  simp (disch := omega) only [u0, u1, u2, u3, u4, u5, u6, u7, oP_some, Nat.add_zero]
  refine hK' _ ?_; clear hK' K'
  refine S_call T.hb43 rfl ?_
  refine FC.mono (mlevel_spec h A.Y F s (mv.t.ext hE0 (fun _ _ f => f))) ?_
  rintro v' h' ⟨rfl, rfl⟩
  refine S_as rfl ?_
  refine S_nil (hK3 _ _ (V_keep [0, 3, 4] (by simp only [proj, lk, reduceIte, Nat.reduceEqDiff]; rfl) ?_)); clear hK3
  refine V_sr T.mix (by kernel_rfl) (fun K4 hK4 => ?_)
  refine S_mv rfl ?_
  refine S_mv rfl ?_
  refine S_bs T.ei33 rfl (by decide) (by decide) (T.bs33_1_0 _) ?_
  refine S_appx (lo := h.size) T.ei33 T.ni33 T.us33 rfl rfl rfl (OwnR.ext (OwnR.nil h.size h 3 1) (Ext.push (fun _ => False) _ _) (fun _ _ f => f)) (by first | (simp; done) | (simp; omega)) (cellsH_new _ _ _) rfl (by omega) (by decide) (by decide) rfl (fun a11 c11 h11 ho11 hE11x hb11x => ?_)
  have hE11 : Ext (fun z => blkA none = some z) h h11 := (Ext.push _ _ _).trans hE11x
  have hb11 := new_blk2 (h := h) hb11x (by simp)
  have hE11f : Ext (fun _ => False) h h11 := hE11.mono fun b e => by simp [blkA] at e
  have hl11 := hE11f.1
  try clear u0 u1 u2 u3 u4 u5 u6 u7 huok
  obtain ⟨u0, u1, u2, u3, u4, u5, u6, u7, huok⟩ := uq (hD.ext hE11f (fun f => f))
  refine S_as rfl ?_
  refine S_nil (hK4 _ _ (V_keep [0, 3] (by simp only [proj, lk, reduceIte, Nat.reduceEqDiff]; rfl) ?_)); clear hK4
  refine V_sr T.mix (by kernel_rfl) (fun K5 hK5 => ?_)
  refine S_mv rfl ?_
  refine S_nc rfl ?_
  first | refine S_fa0 T.f48_2 rfl ?_ | refine S_fa T.f48_2 rfl ?_
  first | refine S_fa0 T.f46_0 rfl ?_ | refine S_fa T.f46_0 rfl ?_
  refine S_ldK T.ag43 rfl (fun K' hK' => ?_)
  simp (disch := omega) only [u0, u1, u2, u3, u4, u5, u6, u7, oP_some, Nat.add_zero]
  refine hK' _ ?_; clear hK' K'
  refine S_call T.hb45 rfl ?_
  refine FC.mono (mlen_spec h11 A.Y F s (mv.t.ext hE11f (fun _ _ f => f))) ?_
  rintro v' h' ⟨rfl, rfl⟩
  refine S_as rfl ?_
  refine S_nil (hK5 _ _ (V_keep [0, 3, 4] (by simp only [proj, lk, reduceIte, Nat.reduceEqDiff]; rfl) ?_)); clear hK5
  refine V_sr T.mix (by kernel_rfl) (fun K6 hK6 => ?_)
  refine S_mv rfl ?_
  refine S_mv rfl ?_
  refine S_bs T.ei33 rfl (by decide) (by decide) (T.bs33_1_0 _) ?_
  refine S_appx (lo := h.size) T.ei33 T.ni33 T.us33 rfl rfl rfl (OwnR.ext ho11 (Ext.push (fun _ => False) _ _) (fun _ _ f => f)) (by first | (simp; done) | (simp; omega)) (cellsH_new _ _ _) rfl (by omega) (by decide) (by decide) rfl (fun a12 c12 h12 ho12 hE12x hb12x => ?_)
  have hE12 : Ext (fun z => blkA a11 = some z) h11 h12 := (Ext.push _ _ _).trans hE12x
  have hb12 := new_blk2 (h := h11) hb12x (by simp)
  have hE12f : Ext (fun _ => False) h h12 := hE11f.step hE12 (fun z hz e => by have h9 := OwnR.blk2 ho11 e; omega)
  have hl12x := hE12f.1
  try clear u0 u1 u2 u3 u4 u5 u6 u7 huok
  obtain ⟨u0, u1, u2, u3, u4, u5, u6, u7, huok⟩ := uq (hD.ext hE12f (fun f => f))
  refine S_as rfl ?_
  refine S_nil (hK6 _ _ (V_keep [0, 3] (by simp only [proj, lk, reduceIte, Nat.reduceEqDiff]; rfl) ?_)); clear hK6
  refine V_sr T.mix (by kernel_rfl) (fun K7 hK7 => ?_)
  refine S_mv rfl ?_
  refine S_nc rfl ?_
  first | refine S_fa0 T.f48_2 rfl ?_ | refine S_fa T.f48_2 rfl ?_
  first | refine S_fa0 T.f46_0 rfl ?_ | refine S_fa T.f46_0 rfl ?_
  refine S_ldK T.ag43 rfl (fun K' hK' => ?_)
  simp (disch := omega) only [u0, u1, u2, u3, u4, u5, u6, u7, oP_some, Nat.add_zero]
  refine hK' _ ?_; clear hK' K'
  refine S_call T.hb47 rfl ?_
  refine FC.mono (mpending_spec h12 A.Y F s (mv.t.ext hE12f (fun _ _ f => f))) ?_
  rintro v' h' ⟨rfl, rfl⟩
  refine S_as rfl ?_
  refine S_nil (hK7 _ _ (V_keep [0, 3, 4] (by simp only [proj, lk, reduceIte, Nat.reduceEqDiff]; rfl) ?_)); clear hK7
  refine V_sr T.mix (by kernel_rfl) (fun K8 hK8 => ?_)
  refine S_mv rfl ?_
  refine S_mv rfl ?_
  refine S_bs T.ei33 rfl (by decide) (by decide) (T.bs33_1_0 _) ?_
  refine S_appx (lo := h.size) T.ei33 T.ni33 T.us33 rfl rfl rfl (OwnR.ext ho12 (Ext.push (fun _ => False) _ _) (fun _ _ f => f)) (by first | (simp; done) | (simp; omega)) (cellsH_new _ _ _) rfl (by omega) (by decide) (by decide) rfl (fun a13 c13 h13 ho13 hE13x hb13x => ?_)
  have hE13 : Ext (fun z => blkA a12 = some z) h12 h13 := (Ext.push _ _ _).trans hE13x
  have hb13 := new_blk2 (h := h12) hb13x (by simp)
  have hE13f : Ext (fun _ => False) h h13 := hE12f.step hE13 (fun z hz e => by have h9 := OwnR.blk2 ho12 e; omega)
  have hl13 := hE13f.1
  have hI13 : OwnR h.size h13 a13 (row1 s 0).length c13 (ints (row1 s 0)) 3 1 := by have h9 := ho13; simpa [row1, ints] using h9
  try clear u0 u1 u2 u3 u4 u5 u6 u7 huok
  obtain ⟨u0, u1, u2, u3, u4, u5, u6, u7, huok⟩ := uq (hD.ext hE13f (fun f => f))
  refine S_as rfl ?_
  refine S_nil (hK8 _ _ (V_keep [0, 3] (by simp only [proj, lk, reduceIte, Nat.reduceEqDiff]; rfl) ?_)); clear hK8
  refine V_seq (fun K9 hK9 => ?_)
  refine V_sr T.mix (by kernel_rfl) (fun K10 hK10 => ?_)
  refine S_as rfl ?_
  refine S_nil (hK10 _ _ (V_keep [0, 3, 5] (by simp only [proj, lk, reduceIte, Nat.reduceEqDiff]; rfl) ?_)); clear hK10
  refine V_block ?_
  refine V_loop (fun m l h' => ∃ (j : Nat) (hk : Heap) (oa : Option Addr) (oc : Nat) (out : List Int), (j ≤ 27) ∧ (out = row1 s j) ∧ (OwnR h.size hk oa out.length oc (ints out) 3 1) ∧ (Ext (fun _ => False) h hk) ∧ m = 27 - j ∧ l = [(0, .pointer (some ⟨A.U, 0, none⟩)), (3, .slice oa out.length oc), (5, .int .i64 ((j : Int) - 13))] ∧ hk = h') _ ⟨0, h13, a13, c13, row1 s 0, by omega, rfl, hI13, hE13f, rfl, rfl, rfl⟩ ?_
  rintro m l h' ⟨j, hk, oa, oc, out, hj, hout, hoo, hEk, rfl, rfl, rfl⟩ K11 hK11
  subst hout
  try clear u0 u1 u2 u3 u4 u5 u6 u7 huok
  obtain ⟨u0, u1, u2, u3, u4, u5, u6, u7, huok⟩ := uq (hD.ext hEk (fun f => f))
  have hlen := row1_len s j
  have hsz := hEk.1
  refine V_seq (fun K12 hK12 => ?_)
  refine V_sr T.mix (by kernel_rfl) (fun K13 hK13 => ?_)
  refine S_mv rfl ?_
  refine S_bin rfl rfl rfl ?_
  refine S_nil (hK13 _ _ (V_keep [0, 3, 5, 39] (by simp only [proj, lk, reduceIte, Nat.reduceEqDiff]; rfl) ?_)); clear hK13
  refine V_condp rfl (fun c89 => ?_) (fun c89 => ?_)
  · skip
    refine V_skipk [0, 3, 5] (by simp only [proj, lk, reduceIte, Nat.reduceEqDiff]; rfl) ?_
    refine hK12 _ _ ?_; clear hK12
    refine V_seq (fun K14 hK14 => ?_)
    refine V_block ?_
    refine V_sr T.mix (by kernel_rfl) (fun K15 hK15 => ?_)
    refine S_mv rfl ?_
    refine S_nc rfl ?_
    first | refine S_fa0 T.f48_2 rfl ?_ | refine S_fa T.f48_2 rfl ?_
    first | refine S_fa0 T.f46_0 rfl ?_ | refine S_fa T.f46_0 rfl ?_
    refine S_ldK T.ag43 rfl (fun K' hK' => ?_)
    simp (disch := omega) only [u0, u1, u2, u3, u4, u5, u6, u7, oP_some, Nat.add_zero]
    refine hK' _ ?_; clear hK' K'
    refine S_mv rfl ?_
    refine S_call T.hb49 rfl ?_
    refine FC.mono (mvalue_spec hk A.Y F s (mv.t.ext hEk (fun _ _ f => f)) ((j : Int) - 13)) ?_
    rintro v' h' ⟨rfl, rfl⟩
    refine S_as rfl ?_
    refine S_nil (hK15 _ _ (V_keep [0, 3, 4, 5] (by simp only [proj, lk, reduceIte, Nat.reduceEqDiff]; rfl) ?_)); clear hK15
    refine V_reg T.mix (by kernel_rfl) ?_
    refine S_mv rfl ?_
    refine S_mv rfl ?_
    refine S_bs T.ei33 rfl (by decide) (by decide) (T.bs33_1_0 _) ?_
    refine S_appx (lo := h.size) T.ei33 T.ni33 T.us33 rfl rfl rfl (OwnR.ext hoo (Ext.push (fun _ => False) _ _) (fun _ _ f => f)) (by first | (simp; done) | (simp; omega)) (cellsH_new _ _ _) rfl (by omega) (by decide) (by decide) rfl (fun a14 c14 h14 ho14 hE14x hb14x => ?_)
    have hE14 : Ext (fun z => blkA oa = some z) hk h14 := (Ext.push _ _ _).trans hE14x
    have hb14 := new_blk2 (h := hk) hb14x (by simp)
    have hI14 : OwnR h.size h14 a14 (row1 s j ++ [valO s ((j : Int) - 13)]).length c14 (ints (row1 s j ++ [valO s ((j : Int) - 13)])) 3 1 := by rw [ints_snoc, List.length_append]; exact ho14
    have hE14f : Ext (fun _ => False) h h14 := hEk.step hE14 (fun z hz e => by have h9 := OwnR.blk2 hoo e; omega)
    refine S_as rfl ?_
    refine S_nilk [0, 3, 5] (by simp only [proj, lk, reduceIte, Nat.reduceEqDiff]; rfl) ?_
    refine hK14 _ _ ?_; clear hK14
    refine V_reg T.mix (by kernel_rfl) ?_
    refine S_mv rfl ?_
    first | refine S_add rfl rfl (by omega) (by omega) ?_ | refine S_bin rfl rfl rfl ?_
    refine S_as rfl ?_
    refine S_nilk [0, 3, 5] (by simp only [proj, lk, reduceIte, Nat.reduceEqDiff]; rfl) ?_
    exact hK11 _ _ ⟨_, by omega, j + 1, h14, a14, c14, row1 s j ++ [valO s ((j : Int) - 13)], by omega, (row1_succ s j).symm, hI14, hE14f, rfl, by simp [show ((j : Int) - 13 + 1) = (((j + 1 : Nat) : Int) - 13) by omega], rfl⟩
  · skip
    refine V_exitk [0, 3] rfl (by simp only [proj, lk, reduceIte, Nat.reduceEqDiff]; rfl) ?_
    refine hK9 _ _ ?_; clear hK9
    refine V_seq (fun K16 hK16 => ?_)
    refine V_sr T.mix (by kernel_rfl) (fun K17 hK17 => ?_)
    refine S_as rfl ?_
    refine S_nil (hK17 _ _ (V_keep [0, 3, 6] (by simp only [proj, lk, reduceIte, Nat.reduceEqDiff]; rfl) ?_)); clear hK17
    refine V_block ?_
    refine V_loop (fun m l h' => ∃ (j : Nat) (hk : Heap) (oa : Option Addr) (oc : Nat) (out : List Int), (j ≤ 15) ∧ (out = row2 s j) ∧ (OwnR h.size hk oa out.length oc (ints out) 3 1) ∧ (Ext (fun _ => False) h hk) ∧ m = 15 - j ∧ l = [(0, .pointer (some ⟨A.U, 0, none⟩)), (3, .slice oa out.length oc), (6, .int .i64 ((j : Int) - 1))] ∧ hk = h') _ ⟨0, hk, oa, oc, _, by omega, by rw [show j = 27 by omega]; simp [row2], hoo, hEk, rfl, rfl, rfl⟩ ?_
    rintro m l h' ⟨j, hk, oa, oc, out, hj, hout, hoo, hEk, rfl, rfl, rfl⟩ K18 hK18
    subst hout
    try clear u0 u1 u2 u3 u4 u5 u6 u7 huok
    obtain ⟨u0, u1, u2, u3, u4, u5, u6, u7, huok⟩ := uq (hD.ext hEk (fun f => f))
    have hlen := row2_len s j
    have hsz := hEk.1
    refine V_seq (fun K19 hK19 => ?_)
    refine V_sr T.mix (by kernel_rfl) (fun K20 hK20 => ?_)
    refine S_mv rfl ?_
    refine S_bin rfl rfl rfl ?_
    refine S_nil (hK20 _ _ (V_keep [0, 3, 6, 54] (by simp only [proj, lk, reduceIte, Nat.reduceEqDiff]; rfl) ?_)); clear hK20
    refine V_condp rfl (fun c93 => ?_) (fun c93 => ?_)
    · skip
      refine V_skipk [0, 3, 6] (by simp only [proj, lk, reduceIte, Nat.reduceEqDiff]; rfl) ?_
      refine hK19 _ _ ?_; clear hK19
      refine V_seq (fun K21 hK21 => ?_)
      refine V_block ?_
      refine V_sr T.mix (by kernel_rfl) (fun K22 hK22 => ?_)
      refine S_mv rfl ?_
      refine S_nc rfl ?_
      first | refine S_fa0 T.f48_2 rfl ?_ | refine S_fa T.f48_2 rfl ?_
      first | refine S_fa0 T.f46_0 rfl ?_ | refine S_fa T.f46_0 rfl ?_
      refine S_ldK T.ag43 rfl (fun K' hK' => ?_)
      simp (disch := omega) only [u0, u1, u2, u3, u4, u5, u6, u7, oP_some, Nat.add_zero]
      refine hK' _ ?_; clear hK' K'
      refine S_mv rfl ?_
      refine S_call T.hb51 rfl ?_
      refine FC.mono (mlevelof_spec hk A.Y F s (mv.t.ext hEk (fun _ _ f => f)) ((j : Int) - 1)) ?_
      rintro v' h' ⟨rfl, rfl⟩
      refine S_as rfl ?_
      refine S_nil (hK22 _ _ (V_keep [0, 3, 4, 6] (by simp only [proj, lk, reduceIte, Nat.reduceEqDiff]; rfl) ?_)); clear hK22
      refine V_sr T.mix (by kernel_rfl) (fun K23 hK23 => ?_)
      refine S_mv rfl ?_
      refine S_mv rfl ?_
      refine S_bs T.ei33 rfl (by decide) (by decide) (T.bs33_1_0 _) ?_
      refine S_appx (lo := h.size) T.ei33 T.ni33 T.us33 rfl rfl rfl (OwnR.ext hoo (Ext.push (fun _ => False) _ _) (fun _ _ f => f)) (by first | (simp; done) | (simp; omega)) (cellsH_new _ _ _) rfl (by omega) (by decide) (by decide) rfl (fun a15 c15 h15 ho15 hE15x hb15x => ?_)
      have hE15 : Ext (fun z => blkA oa = some z) hk h15 := (Ext.push _ _ _).trans hE15x
      have hb15 := new_blk2 (h := hk) hb15x (by simp)
      have hI15 : OwnR h.size h15 a15 (row2 s j ++ [levV s.L ((j : Int) - 1)]).length c15 (ints (row2 s j ++ [levV s.L ((j : Int) - 1)])) 3 1 := by rw [ints_snoc, List.length_append]; exact ho15
      have hE15f : Ext (fun _ => False) h h15 := hEk.step hE15 (fun z hz e => by have h9 := OwnR.blk2 hoo e; omega)
      have hl15 := hE15f.1
      try clear u0 u1 u2 u3 u4 u5 u6 u7 huok
      obtain ⟨u0, u1, u2, u3, u4, u5, u6, u7, huok⟩ := uq (hD.ext hE15f (fun f => f))
      refine S_as rfl ?_
      refine S_nil (hK23 _ _ (V_keep [0, 3, 6] (by simp only [proj, lk, reduceIte, Nat.reduceEqDiff]; rfl) ?_)); clear hK23
      refine V_sr T.mix (by kernel_rfl) (fun K24 hK24 => ?_)
      refine S_mv rfl ?_
      refine S_nc rfl ?_
      first | refine S_fa0 T.f48_2 rfl ?_ | refine S_fa T.f48_2 rfl ?_
      first | refine S_fa0 T.f46_0 rfl ?_ | refine S_fa T.f46_0 rfl ?_
      refine S_ldK T.ag43 rfl (fun K' hK' => ?_)
      simp (disch := omega) only [u0, u1, u2, u3, u4, u5, u6, u7, oP_some, Nat.add_zero]
      refine hK' _ ?_; clear hK' K'
      refine S_mv rfl ?_
      refine S_call T.hb53 rfl ?_
      refine FC.mono (mreason_spec h15 A.Y F s (mv.t.ext hE15f (fun _ _ f => f)) ((j : Int) - 1)) ?_
      rintro v' h' ⟨rfl, rfl⟩
      refine S_as rfl ?_
      refine S_nil (hK24 _ _ (V_keep [0, 3, 4, 6] (by simp only [proj, lk, reduceIte, Nat.reduceEqDiff]; rfl) ?_)); clear hK24
      refine V_sr T.mix (by kernel_rfl) (fun K25 hK25 => ?_)
      refine S_mv rfl ?_
      refine S_mv rfl ?_
      refine S_bs T.ei33 rfl (by decide) (by decide) (T.bs33_1_0 _) ?_
      refine S_appx (lo := h.size) T.ei33 T.ni33 T.us33 rfl rfl rfl (OwnR.ext ho15 (Ext.push (fun _ => False) _ _) (fun _ _ f => f)) (by first | (simp; done) | (simp; omega)) (cellsH_new _ _ _) rfl (by omega) (by decide) (by decide) rfl (fun a16 c16 h16 ho16 hE16x hb16x => ?_)
      have hE16 : Ext (fun z => blkA a15 = some z) h15 h16 := (Ext.push _ _ _).trans hE16x
      have hb16 := new_blk2 (h := h15) hb16x (by simp)
      have hE16f : Ext (fun _ => False) h h16 := hE15f.step hE16 (fun z hz e => by have h9 := OwnR.blk2 ho15 e; omega)
      have hl16 := hE16f.1
      try clear u0 u1 u2 u3 u4 u5 u6 u7 huok
      obtain ⟨u0, u1, u2, u3, u4, u5, u6, u7, huok⟩ := uq (hD.ext hE16f (fun f => f))
      refine S_as rfl ?_
      refine S_nil (hK25 _ _ (V_keep [0, 3, 6] (by simp only [proj, lk, reduceIte, Nat.reduceEqDiff]; rfl) ?_)); clear hK25
      refine V_sr T.mix (by kernel_rfl) (fun K26 hK26 => ?_)
      refine S_mv rfl ?_
      refine S_nc rfl ?_
      first | refine S_fa0 T.f48_2 rfl ?_ | refine S_fa T.f48_2 rfl ?_
      first | refine S_fa0 T.f46_0 rfl ?_ | refine S_fa T.f46_0 rfl ?_
      refine S_ldK T.ag43 rfl (fun K' hK' => ?_)
      simp (disch := omega) only [u0, u1, u2, u3, u4, u5, u6, u7, oP_some, Nat.add_zero]
      refine hK' _ ?_; clear hK' K'
      refine S_mv rfl ?_
      refine S_call T.hb55 rfl ?_
      refine FC.mono (mplace_spec h16 A.Y F s (mv.t.ext hE16f (fun _ _ f => f)) ((j : Int) - 1)) ?_
      rintro v' h' ⟨rfl, rfl⟩
      refine S_as rfl ?_
      refine S_nil (hK26 _ _ (V_keep [0, 3, 4, 6] (by simp only [proj, lk, reduceIte, Nat.reduceEqDiff]; rfl) ?_)); clear hK26
      refine V_reg T.mix (by kernel_rfl) ?_
      refine S_mv rfl ?_
      refine S_mv rfl ?_
      refine S_bs T.ei33 rfl (by decide) (by decide) (T.bs33_1_0 _) ?_
      refine S_appx (lo := h.size) T.ei33 T.ni33 T.us33 rfl rfl rfl (OwnR.ext ho16 (Ext.push (fun _ => False) _ _) (fun _ _ f => f)) (by first | (simp; done) | (simp; omega)) (cellsH_new _ _ _) rfl (by omega) (by decide) (by decide) rfl (fun a17 c17 h17 ho17 hE17x hb17x => ?_)
      have hE17 : Ext (fun z => blkA a16 = some z) h16 h17 := (Ext.push _ _ _).trans hE17x
      have hb17 := new_blk2 (h := h16) hb17x (by simp)
      have hE17f : Ext (fun _ => False) h h17 := hE16f.step hE17 (fun z hz e => by have h9 := OwnR.blk2 ho16 e; omega)
      have hI17 : OwnR h.size h17 a17 (row2 s (j + 1)).length c17 (ints (row2 s (j + 1))) 3 1 := by rw [row2_succ]; simpa [ints] using ho17
      refine S_as rfl ?_
      refine S_nilk [0, 3, 6] (by simp only [proj, lk, reduceIte, Nat.reduceEqDiff]; rfl) ?_
      refine hK21 _ _ ?_; clear hK21
      refine V_reg T.mix (by kernel_rfl) ?_
      refine S_mv rfl ?_
      first | refine S_add rfl rfl (by omega) (by omega) ?_ | refine S_bin rfl rfl rfl ?_
      refine S_as rfl ?_
      refine S_nilk [0, 3, 6] (by simp only [proj, lk, reduceIte, Nat.reduceEqDiff]; rfl) ?_
      exact hK18 _ _ ⟨_, by omega, j + 1, h17, a17, c17, row2 s (j + 1), by omega, rfl, hI17, hE17f, rfl, by rw [row2_succ]; simp [show ((j : Int) - 1 + 1) = (((j + 1 : Nat) : Int) - 1) by omega], rfl⟩
    · skip
      refine V_exitk [0, 3] rfl (by simp only [proj, lk, reduceIte, Nat.reduceEqDiff]; rfl) ?_
      refine hK16 _ _ ?_; clear hK16
      refine V_seq (fun K27 hK27 => ?_)
      refine V_sr T.mix (by kernel_rfl) (fun K28 hK28 => ?_)
      refine S_as rfl ?_
      refine S_nil (hK28 _ _ (V_keep [0, 3, 7] (by simp only [proj, lk, reduceIte, Nat.reduceEqDiff]; rfl) ?_)); clear hK28
      refine V_block ?_
      refine V_loop (fun m l h' => ∃ (j : Nat) (hk : Heap) (oa : Option Addr) (oc : Nat) (out : List Int), (j ≤ 14) ∧ (out = row3 s j) ∧ (OwnR h.size hk oa out.length oc (ints out) 3 1) ∧ (Ext (fun _ => False) h hk) ∧ m = 14 - j ∧ l = [(0, .pointer (some ⟨A.U, 0, none⟩)), (3, .slice oa out.length oc), (7, .int .i64 ((j : Int) - 1))] ∧ hk = h') _ ⟨0, hk, oa, oc, _, by omega, by rw [show j = 15 by omega]; simp [row3], hoo, hEk, rfl, rfl, rfl⟩ ?_
      rintro m l h' ⟨j, hk, oa, oc, out, hj, hout, hoo, hEk, rfl, rfl, rfl⟩ K29 hK29
      subst hout
      try clear u0 u1 u2 u3 u4 u5 u6 u7 huok
      obtain ⟨u0, u1, u2, u3, u4, u5, u6, u7, huok⟩ := uq (hD.ext hEk (fun f => f))
      have hlen := row3_len s j
      have hsz := hEk.1
      refine V_seq (fun K30 hK30 => ?_)
      refine V_sr T.mix (by kernel_rfl) (fun K31 hK31 => ?_)
      refine S_mv rfl ?_
      refine S_bin rfl rfl rfl ?_
      refine S_nil (hK31 _ _ (V_keep [0, 3, 7, 91] (by simp only [proj, lk, reduceIte, Nat.reduceEqDiff]; rfl) ?_)); clear hK31
      refine V_condp rfl (fun c101 => ?_) (fun c101 => ?_)
      · skip
        refine V_skipk [0, 3, 7] (by simp only [proj, lk, reduceIte, Nat.reduceEqDiff]; rfl) ?_
        refine hK30 _ _ ?_; clear hK30
        refine V_seq (fun K32 hK32 => ?_)
        refine V_block ?_
        refine V_sr T.mix (by kernel_rfl) (fun K33 hK33 => ?_)
        refine S_mv rfl ?_
        refine S_nc rfl ?_
        first | refine S_fa0 T.f48_2 rfl ?_ | refine S_fa T.f48_2 rfl ?_
        first | refine S_fa0 T.f46_0 rfl ?_ | refine S_fa T.f46_0 rfl ?_
        refine S_ldK T.ag43 rfl (fun K' hK' => ?_)
        simp (disch := omega) only [u0, u1, u2, u3, u4, u5, u6, u7, oP_some, Nat.add_zero]
        refine hK' _ ?_; clear hK' K'
        refine S_mv rfl ?_
        refine S_call T.hb57 rfl ?_
        refine FC.mono (mat_spec hk A.Y F s (mv.t.ext hEk (fun _ _ f => f)) ((j : Int) - 1)) ?_
        rintro v' h' ⟨rfl, rfl⟩
        refine S_as rfl ?_
        refine S_nil (hK33 _ _ (V_keep [0, 3, 4, 7] (by simp only [proj, lk, reduceIte, Nat.reduceEqDiff]; rfl) ?_)); clear hK33
        refine V_reg T.mix (by kernel_rfl) ?_
        refine S_mv rfl ?_
        refine S_mv rfl ?_
        refine S_bs T.ei33 rfl (by decide) (by decide) (T.bs33_1_0 _) ?_
        refine S_appx (lo := h.size) T.ei33 T.ni33 T.us33 rfl rfl rfl (OwnR.ext hoo (Ext.push (fun _ => False) _ _) (fun _ _ f => f)) (by first | (simp; done) | (simp; omega)) (cellsH_new _ _ _) rfl (by omega) (by decide) (by decide) rfl (fun a18 c18 h18 ho18 hE18x hb18x => ?_)
        have hE18 : Ext (fun z => blkA oa = some z) hk h18 := (Ext.push _ _ _).trans hE18x
        have hb18 := new_blk2 (h := hk) hb18x (by simp)
        have hI18 : OwnR h.size h18 a18 (row3 s j ++ [atL s.L ((j : Int) - 1)]).length c18 (ints (row3 s j ++ [atL s.L ((j : Int) - 1)])) 3 1 := by rw [ints_snoc, List.length_append]; exact ho18
        have hE18f : Ext (fun _ => False) h h18 := hEk.step hE18 (fun z hz e => by have h9 := OwnR.blk2 hoo e; omega)
        refine S_as rfl ?_
        refine S_nilk [0, 3, 7] (by simp only [proj, lk, reduceIte, Nat.reduceEqDiff]; rfl) ?_
        refine hK32 _ _ ?_; clear hK32
        refine V_reg T.mix (by kernel_rfl) ?_
        refine S_mv rfl ?_
        first | refine S_add rfl rfl (by omega) (by omega) ?_ | refine S_bin rfl rfl rfl ?_
        refine S_as rfl ?_
        refine S_nilk [0, 3, 7] (by simp only [proj, lk, reduceIte, Nat.reduceEqDiff]; rfl) ?_
        exact hK29 _ _ ⟨_, by omega, j + 1, h18, a18, c18, _, by omega, (row3_succ s j).symm, hI18, hE18f, rfl, by simp [show ((j : Int) - 1 + 1) = (((j + 1 : Nat) : Int) - 1) by omega], rfl⟩
      · skip
        refine V_exitk [3] rfl (by simp only [proj, lk, reduceIte, Nat.reduceEqDiff]; rfl) ?_
        refine hK27 _ _ ?_; clear hK27
        refine V_sr T.mix (by kernel_rfl) (fun K34 hK34 => ?_)
        refine S_mv rfl ?_
        refine S_as rfl ?_
        refine S_nil (hK34 _ _ (V_keep [2] (by simp only [proj, lk, reduceIte, Nat.reduceEqDiff]; rfl) ?_)); clear hK34
        refine V_ret ?_
        refine hR _ _ (ret1 rfl rfl ?_)
        have hj14 : j = 14 := by omega
        subst hj14
        exact ⟨oa, oc, rfl, hoo, hEk⟩
set_option maxHeartbeats 3200000 in
theorem lasts_spec (h : Heap) (A : UA) (u : US) (hD : B h A.U (ucs A u) 48) (uz : US) (k oa ob oc : Int) (os ot : ByteArray) (mm : MC) (G F : Nat → Prop) (s : TS) (mv : MV h A.M A.Y mm (plCl uz k oa ob) G F s) (hn0 : ∀ n, n < 52 → ∀ c, uz.cl n = some c → Nrm c) (ia : Option Addr) (hIi : IL h ia (idsF uz.cl 52).length (idsF uz.cl 52)) (pa : Option Addr) (pc lo hi_ : Nat) (hlv : LV lo hi_ h pa pc (liveL uz.cl)) (ga : Option Addr) (gc : Nat) (hIg : IL h ga gc uz.rg) (hgl : uz.rg.length ≤ 13) :
    FC Tryz.prog 18 (#[.pointer (some ⟨A.U, 0, none⟩), .agg #[.slice ia (idsF uz.cl 52).length (idsF uz.cl 52).length, .slice pa (liveL uz.cl).length pc], .slice ga uz.rg.length gc, .agg #[.int .i64 k, .int .i64 oa, .int .i64 ob, .int .i64 oc, .string os, .string ot]] : Array Value) h fun rv h' => rv = .bool true ∧ Ext (fun _ => False) h h' := by
  have hil := idsF_len uz.cl 52
  have hil2 := idsF_len (plCl uz k oa ob) 52
  have hnd := idsF_nodup uz.cl 52
  refine FC_of [(0, .pointer (some ⟨A.U, 0, none⟩)), (1, .agg #[.slice ia (idsF uz.cl 52).length (idsF uz.cl 52).length, .slice pa (liveL uz.cl).length pc]), (2, .slice ga uz.rg.length gc), (3, .agg #[.int .i64 k, .int .i64 oa, .int .i64 ob, .int .i64 oc, .string os, .string ot])] Tryz.func18 rfl Tryz.ntmps18 (by simp) rfl (fun R hR => ?_)
  refine V_sr T.mix (by kernel_rfl) (fun K1 hK1 => ?_)
  refine S_boxA rfl ?_
  generalize hh : Array.push h _ = h1
  have hH : B h1 h.size #[.slice ia (idsF uz.cl 52).length (idsF uz.cl 52).length, .slice pa (liveL uz.cl).length pc] 36 := by rw [← hh]; exact B.new _ _ _
  have hEh1 : Ext (fun _ => False) h h1 := by rw [← hh]; exact Ext.push _ _ _
  have hsh1 : h1.size = h.size + 1 := by rw [← hh]; simp
  clear hh
  refine S_boxA rfl ?_
  generalize hh : Array.push h1 _ = h2
  have hO : B h2 h1.size #[.int .i64 k, .int .i64 oa, .int .i64 ob, .int .i64 oc, .string os, .string ot] 32 := by rw [← hh]; exact B.new _ _ _
  have hEh2 : Ext (fun _ => False) h1 h2 := by rw [← hh]; exact Ext.push _ _ _
  have hsh2 : h2.size = h1.size + 1 := by rw [← hh]; simp
  clear hh
  have hE02 := hEh1.trans hEh2
  have hH2 := hH.ext hEh2 (fun f => f)
  try clear v0 v1 hvok
  obtain ⟨v0, v1, hvok⟩ := hq2 (hH2)
  try clear o0 o1 o2
  obtain ⟨o0, o1, o2⟩ := oq (hO)
  try clear u0 u1 u2 u3 u4 u5 u6 u7 huok
  obtain ⟨u0, u1, u2, u3, u4, u5, u6, u7, huok⟩ := uq (hD.ext hE02 (fun f => f))
  refine S_as rfl ?_
  refine S_nil (hK1 _ _ (V_keep [0, 2, 5, 7] (by simp only [proj, lk, reduceIte, Nat.reduceEqDiff]; rfl) ?_)); clear hK1
  refine V_sr T.mix (by kernel_rfl) (fun K2 hK2 => ?_)
  refine S_mv rfl ?_
  refine S_nc rfl ?_
  first | refine S_fa0 T.f48_2 rfl ?_ | refine S_fa T.f48_2 rfl ?_
  first | refine S_fa0 T.f46_1 rfl ?_ | refine S_fa T.f46_1 rfl ?_
  refine S_ldK T.ag44 rfl (fun K' hK' => ?_)
  simp (disch := omega) only [u0, u1, u2, u3, u4, u5, u6, u7, v0, v1, o0, o1, o2, oP_some, Nat.add_zero]
  refine hK' _ ?_; clear hK' K'
  refine S_call T.hb58 rfl ?_
  refine FC.mono (mwids_spec h2 A.M A.Y mm (plCl uz k oa ob) G F s (mv.ext hE02 (fun f => f) (fun _ _ f => f) (fun _ _ f => f))) ?_
  rintro v' h3 ⟨na, rfl, hIn, _, _, hE3⟩
  have hE03 := hE02.trans hE3
  try clear v0 v1 hvok
  obtain ⟨v0, v1, hvok⟩ := hq2 (hH2.ext hE3 (fun f => f))
  try clear o0 o1 o2
  obtain ⟨o0, o1, o2⟩ := oq (hO.ext hE3 (fun f => f))
  refine S_as rfl ?_
  refine S_nil (hK2 _ _ (V_keep [0, 2, 5, 7, 9] (by simp only [proj, lk, reduceIte, Nat.reduceEqDiff]; rfl) ?_)); clear hK2
  refine V_seq (fun K3 hK3 => ?_)
  refine V_sr T.mix (by kernel_rfl) (fun K4 hK4 => ?_)
  first | refine S_fa0 T.f32_0 rfl ?_ | refine S_fa T.f32_0 rfl ?_
  refine S_ldK T.ag3 rfl (fun K' hK' => ?_)
  simp (disch := omega) only [u0, u1, u2, u3, u4, u5, u6, u7, v0, v1, o0, o1, o2, oP_some, Nat.add_zero]
  refine hK' _ ?_; clear hK' K'
  refine S_bin rfl rfl rfl ?_
  refine S_nil (hK4 _ _ (V_keep [0, 2, 5, 7, 9, 25] (by simp only [proj, lk, reduceIte, Nat.reduceEqDiff]; rfl) ?_)); clear hK4
  refine V_condp rfl (fun c53 => ?_) (fun c53 => ?_)
  · skip
    refine V_sr T.mix (by kernel_rfl) (fun K5 hK5 => ?_)
    refine S_mv rfl ?_
    refine S_lenl T.el33 rfl ?_
    refine S_bin rfl rfl rfl ?_
    refine S_as rfl ?_
    refine S_nil (hK5 _ _ (V_keep [8] (by simp only [proj, lk, reduceIte, Nat.reduceEqDiff]; rfl) ?_)); clear hK5
    refine V_ret ?_
    refine hR _ _ (ret1 rfl rfl ?_)
    have hz : (plCl uz k oa ob) = fun _ => none := by unfold plCl; rw [if_neg (by omega), if_neg (by omega), if_pos c53]
    have hnil : idsF (plCl uz k oa ob) 52 = [] := by rw [hz]; decide
    exact ⟨by rw [hnil]; rfl, hE03⟩
  · skip
    refine V_skipk [0, 2, 5, 7, 9] (by simp only [proj, lk, reduceIte, Nat.reduceEqDiff]; rfl) ?_
    refine hK3 _ _ ?_; clear hK3
    refine V_sr T.mix (by kernel_rfl) (fun K6 hK6 => ?_)
    refine S_as rfl ?_
    refine S_nil (hK6 _ _ (V_keep [0, 2, 5, 7, 9, 10] (by simp only [proj, lk, reduceIte, Nat.reduceEqDiff]; rfl) ?_)); clear hK6
    refine V_seq (fun K7 hK7 => ?_)
    refine V_sr T.mix (by kernel_rfl) (fun K8 hK8 => ?_)
    refine S_as rfl ?_
    refine S_nil (hK8 _ _ (V_keep [0, 2, 5, 7, 9, 10, 11] (by simp only [proj, lk, reduceIte, Nat.reduceEqDiff]; rfl) ?_)); clear hK8
    refine V_block ?_
    refine V_loop (fun m l h' => ∃ (i : Nat) (hk : Heap) (gg : Nat), (i ≤ (idsF uz.cl 52).length) ∧ (gg = gone uz k oa ((idsF uz.cl 52).take i)) ∧ (Ext (fun _ => False) h hk) ∧ (Ext (fun _ => False) h2 hk) ∧ m = (idsF uz.cl 52).length - i ∧ l = [(0, .pointer (some ⟨A.U, 0, none⟩)), (2, .slice ga uz.rg.length gc), (5, .pointer (some ⟨h.size, 0, none⟩)), (7, .pointer (some ⟨h1.size, 0, none⟩)), (9, .slice na (idsF (plCl uz k oa ob) 52).length (idsF (plCl uz k oa ob) 52).length), (10, .int .i64 (gg : Int)), (11, .int .i64 (i : Int))] ∧ hk = h') _ ⟨0, h3, 0, by omega, by unfold gone; rw [if_neg (by simp)], hE03, hE3, rfl, rfl, rfl⟩ ?_
    rintro m l h' ⟨i, hk, gg, hi, hgo, hEk, hE2k, rfl, rfl, rfl⟩ K9 hK9
    try clear u0 u1 u2 u3 u4 u5 u6 u7 huok
    obtain ⟨u0, u1, u2, u3, u4, u5, u6, u7, huok⟩ := uq (hD.ext hEk (fun f => f))
    try clear v0 v1 hvok
    obtain ⟨v0, v1, hvok⟩ := hq2 (hH2.ext hE2k (fun f => f))
    try clear o0 o1 o2
    obtain ⟨o0, o1, o2⟩ := oq (hO.ext hE2k (fun f => f))
    have hgl1 : gg ≤ 1 := by rw [hgo]; exact gone_le _ _ _ _
    refine V_seq (fun K10 hK10 => ?_)
    refine V_sr T.mix (by kernel_rfl) (fun K11 hK11 => ?_)
    refine S_mv rfl ?_
    first | refine S_fa0 T.f36_0 rfl ?_ | refine S_fa T.f36_0 rfl ?_
    refine S_ldK T.ag33 rfl (fun K' hK' => ?_)
    simp (disch := omega) only [u0, u1, u2, u3, u4, u5, u6, u7, v0, v1, o0, o1, o2, oP_some, Nat.add_zero]
    refine hK' _ ?_; clear hK' K'
    refine S_lenl T.el33 rfl ?_
    refine S_bin rfl rfl rfl ?_
    refine S_nil (hK11 _ _ (V_keep [0, 2, 5, 7, 9, 10, 11, 33] (by simp only [proj, lk, reduceIte, Nat.reduceEqDiff]; rfl) ?_)); clear hK11
    refine V_condp rfl (fun c57 => ?_) (fun c57 => ?_)
    · skip
      obtain ⟨bb, hbe, _, _, _⟩ := hIi.get (by omega)
      have hIk := hIi.ext hEk (fun _ _ f => f)
      rw [hbe] at hIk
      obtain ⟨n, hne, hid, hsm⟩ := mem_idsF.1 (mem_at (show i < (idsF uz.cl 52).length by omega))
      obtain ⟨cc, hcc⟩ := Option.isSome_iff_exists.1 hsm
      have hlc := last_cl (u := uz) (oa := oa) (ob := ob) c53 hid hcc
      have hnr := hn0 n hid cc hcc
      have hln := hnr.len
      refine V_skipk [0, 2, 5, 7, 9, 10, 11] (by simp only [proj, lk, reduceIte, Nat.reduceEqDiff]; rfl) ?_
      refine hK10 _ _ ?_; clear hK10
      refine V_seq (fun K12 hK12 => ?_)
      refine V_block ?_
      refine V_sr T.mix (by kernel_rfl) (fun K13 hK13 => ?_)
      refine S_mv rfl ?_
      refine S_nc rfl ?_
      first | refine S_fa0 T.f48_2 rfl ?_ | refine S_fa T.f48_2 rfl ?_
      first | refine S_fa0 T.f46_1 rfl ?_ | refine S_fa T.f46_1 rfl ?_
      refine S_ldK T.ag44 rfl (fun K' hK' => ?_)
      simp (disch := omega) only [u3, v0, hIk.at, oP_some, Nat.add_zero]
      refine hK' _ ?_; clear hK' K'
      first | refine S_fa0 T.f36_0 rfl ?_ | refine S_fa T.f36_0 rfl ?_
      refine S_ldK T.ag33 rfl (fun K' hK' => ?_)
      simp (disch := omega) only [v0, oP_some, Nat.add_zero]
      refine hK' _ ?_; clear hK' K'
      rw [hbe]
      refine S_mv rfl ?_
      first | refine S_ixn T.el33 rfl rfl (by omega) ?_ | refine S_ix1 T.el33 rfl rfl (by omega) (by omega) ?_ | refine S_ix T.el33 rfl rfl (by omega) (by omega) ?_
      refine S_ldK T.ag3 rfl (fun K' hK' => ?_)
      simp (disch := omega) only [u3, v0, hIk.at, oP_some, Nat.add_zero]
      refine hK' _ ?_; clear hK' K'
      refine S_call T.hb59 rfl ?_
      refine FC.mono (mwclause_spec hk A.M A.Y mm (plCl uz k oa ob) G F s (mv.ext hEk (fun f => f) (fun _ _ f => f) (fun _ _ f => f)) ((idsF uz.cl 52).getD i 0)) ?_
      rintro v' h5 ⟨da, rfl, hId, _, _, hE5⟩
      have hE5k := hE2k.trans hE5
      try clear v0 v1 hvok
      obtain ⟨v0, v1, hvok⟩ := hq2 (hH2.ext hE5k (fun f => f))
      try clear o0 o1 o2
      obtain ⟨o0, o1, o2⟩ := oq (hO.ext hE5k (fun f => f))
      have hIk5 := hIk.ext hE5 (fun _ _ f => f)
      refine S_mv rfl ?_
      refine S_ex rfl rfl ?_
      refine S_ex rfl rfl ?_
      refine S_as rfl ?_
      refine S_as rfl ?_
      refine S_nil (hK13 _ _ (V_keep [0, 2, 5, 7, 9, 10, 11, 12, 13] (by simp only [proj, lk, reduceIte, Nat.reduceEqDiff]; rfl) ?_)); clear hK13
      refine V_sr T.mix (by kernel_rfl) (fun K14 hK14 => ?_)
      refine S_mv rfl ?_
      refine S_bin rfl rfl rfl ?_
      refine S_nil (hK14 _ _ (V_keep [0, 2, 5, 7, 9, 10, 11, 12, 51] (by simp only [proj, lk, reduceIte, Nat.reduceEqDiff]; rfl) ?_)); clear hK14
      refine V_condp rfl (fun c59 => ?_) (fun c59 => ?_)
      · skip
        obtain ⟨hpn, hgn, hon⟩ : (plCl uz k oa ob) n = none ∧ gnP uz k oa ∧ oa = n := by
          rcases hlc with q | q
          · exact absurd (by unfold clE; rw [hne, liveC_nat hid, q.1]; rfl) c59
          · exact q
        refine V_seq (fun K15 hK15 => ?_)
        refine V_sr T.mix (by kernel_rfl) (fun K16 hK16 => ?_)
        first | refine S_fa0 T.f32_0 rfl ?_ | refine S_fa T.f32_0 rfl ?_
        refine S_ldK T.ag3 rfl (fun K' hK' => ?_)
        simp (disch := omega) only [o0, o1, v0, hIk5.at, oP_some, Nat.add_zero]
        refine hK' _ ?_; clear hK' K'
        refine S_bin rfl rfl rfl ?_
        refine S_mv rfl ?_
        refine S_dec (fun g60 => ?_) (fun g60 => ?_)
        · skip
          exfalso; exact g60 hgn.1
        · skip
          refine S_gt rfl ?_
          first | refine S_fa0 T.f36_0 rfl ?_ | refine S_fa T.f36_0 rfl ?_
          refine S_gt rfl ?_
          refine S_ldK T.ag33 rfl (fun K' hK' => ?_)
          simp (disch := omega) only [v0, oP_some, Nat.add_zero]
          refine hK' _ ?_; clear hK' K'
          rw [hbe]
          refine S_gt rfl ?_
          refine S_mv rfl ?_
          refine S_gt rfl ?_
          first | refine S_ixn T.el33 rfl rfl (by omega) ?_ | refine S_ix1 T.el33 rfl rfl (by omega) (by omega) ?_ | refine S_ix T.el33 rfl rfl (by omega) (by omega) ?_
          refine S_gt rfl ?_
          refine S_ldK T.ag3 rfl (fun K' hK' => ?_)
          simp (disch := omega) only [o0, o1, v0, hIk5.at, oP_some, Nat.add_zero]
          refine hK' _ ?_; clear hK' K'
          refine S_gt rfl ?_
          first | refine S_fa0 T.f32_1 rfl ?_ | refine S_fa T.f32_1 rfl ?_
          refine S_gt rfl ?_
          refine S_ldK T.ag3 rfl (fun K' hK' => ?_)
          simp (disch := omega) only [o0, o1, v0, hIk5.at, oP_some, Nat.add_zero]
          refine hK' _ ?_; clear hK' K'
          refine S_gt rfl ?_
          refine S_bin rfl rfl rfl ?_
          refine S_pf rfl rfl ?_
          refine S_nil (hK16 _ _ (V_keep [0, 2, 5, 7, 9, 10, 11, 64] (by simp only [proj, lk, reduceIte, Nat.reduceEqDiff]; rfl) ?_)); clear hK16
          refine V_condp rfl (fun c60 => ?_) (fun c60 => ?_)
          · skip
            exfalso; exact c60 (by rw [hne, hon])
          · skip
            refine V_skipk [0, 2, 5, 7, 9, 10, 11] (by simp only [proj, lk, reduceIte, Nat.reduceEqDiff]; rfl) ?_
            refine hK15 _ _ ?_; clear hK15
            refine V_reg T.mix (by kernel_rfl) ?_
            refine S_mv rfl ?_
            first | refine S_add rfl rfl (by omega) (by omega) ?_ | refine S_bin rfl rfl rfl ?_
            refine S_as rfl ?_
            refine S_nilk [0, 2, 5, 7, 9, 10, 11] (by simp only [proj, lk, reduceIte, Nat.reduceEqDiff]; rfl) ?_
            refine hK12 _ _ ?_; clear hK12
            refine V_reg T.mix (by kernel_rfl) ?_
            refine S_mv rfl ?_
            first | refine S_add rfl rfl (by omega) (by omega) ?_ | refine S_bin rfl rfl rfl ?_
            refine S_as rfl ?_
            refine S_nilk [0, 2, 5, 7, 9, 10, 11] (by simp only [proj, lk, reduceIte, Nat.reduceEqDiff]; rfl) ?_
            exact hK9 _ _ ⟨_, by omega, i + 1, h5, gg + 1, by omega, by rw [gone_yes (by omega) hnd hgn (by rw [hne]; exact hon), ← hgo], hEk.trans hE5, hE5k, rfl, rfl, rfl⟩
      · skip
        obtain ⟨hpn, hgn⟩ : (plCl uz k oa ob) n = some cc ∧ ¬ (gnP uz k oa ∧ oa = n) := by
          rcases hlc with q | q
          · exact q
          · exact absurd (by unfold clE; rw [hne, liveC_nat hid, q.1]; decide) c59
        have hcF2 : clF (plCl uz k oa ob) ((idsF uz.cl 52).getD i 0) = cc := by unfold clF; rw [hne, liveC_nat hid, hpn]; rfl
        obtain ⟨bp, hbp, _, _, hgt⟩ := ((hlv.ext hEk (fun z _ _ f => f)).ext hE5 (fun z _ _ f => f)).get (by unfold liveL; rw [List.length_map]; omega)
        obtain ⟨ai, ci, hcell, hIai, _⟩ := hgt i (by unfold liveL; rw [List.length_map]; omega)
        have hge : (liveL uz.cl).getD i [] = cc := by rw [liveL_get (by omega)]; unfold clF; rw [hne, liveC_nat hid, hcc]; rfl
        rw [hge] at hcell hIai
        have hgl : (liveL uz.cl).length = (idsF uz.cl 52).length := by unfold liveL; rw [List.length_map]
        refine V_sr T.mix (by kernel_rfl) (fun K17 hK17 => ?_)
        refine S_mv rfl ?_
        first | refine S_fa0 T.f36_1 rfl ?_ | refine S_fa T.f36_1 rfl ?_
        refine S_ldK T.ag34 rfl (fun K' hK' => ?_)
        simp (disch := omega) only [v1, oP_some, Nat.add_zero]
        refine hK' _ ?_; clear hK' K'
        rw [hbp]
        refine S_mv rfl ?_
        first | refine S_ixn T.el34 rfl rfl (by omega) ?_ | refine S_ix1 T.el34 rfl rfl (by omega) (by omega) ?_ | refine S_ix T.el34 rfl rfl (by omega) (by omega) ?_
        refine S_ldK T.ag33 rfl (fun K' hK' => ?_)
        simp (disch := omega) only [v1, hcell, oP_some, Nat.add_zero]
        refine hK' _ ?_; clear hK' K'
        refine S_call T.hb20 rfl ?_
        rw [hcF2] at hId ⊢
        refine FC.mono (sameints_spec h5 da ai _ _ cc cc hId hIai (by omega) (by omega)) ?_
        rintro v' h' ⟨rfl, rfl⟩
        refine S_notb rfl ?_
        refine S_nil (hK17 _ _ (V_keep [0, 2, 5, 7, 9, 10, 11, 74] (by simp only [proj, lk, reduceIte, Nat.reduceEqDiff]; rfl) ?_)); clear hK17
        refine V_condb rfl (fun c64 => ?_) (fun c64 => ?_)
        · skip
          exfalso; simp at c64
        · skip
          refine V_skipk [0, 2, 5, 7, 9, 10, 11] (by simp only [proj, lk, reduceIte, Nat.reduceEqDiff]; rfl) ?_
          refine hK12 _ _ ?_; clear hK12
          refine V_reg T.mix (by kernel_rfl) ?_
          refine S_mv rfl ?_
          first | refine S_add rfl rfl (by omega) (by omega) ?_ | refine S_bin rfl rfl rfl ?_
          refine S_as rfl ?_
          refine S_nilk [0, 2, 5, 7, 9, 10, 11] (by simp only [proj, lk, reduceIte, Nat.reduceEqDiff]; rfl) ?_
          exact hK9 _ _ ⟨_, by omega, i + 1, h5, gg, by omega, by rw [gone_no (by omega) (by rw [hne]; exact hgn), ← hgo], hEk.trans hE5, hE5k, rfl, rfl, rfl⟩
    · skip
      have hie : i = (idsF uz.cl 52).length := by omega
      rw [hie, List.take_length] at hgo
      have hcm := come_eq uz (oa := oa) (ob := ob) c53
      refine V_exitk [2, 5, 7, 9, 10] rfl (by simp only [proj, lk, reduceIte, Nat.reduceEqDiff]; rfl) ?_
      refine hK7 _ _ ?_; clear hK7
      refine V_sr T.mix (by kernel_rfl) (fun K18 hK18 => ?_)
      refine S_mv rfl ?_
      refine S_lenl T.el33 rfl ?_
      first | refine S_fa0 T.f36_0 rfl ?_ | refine S_fa T.f36_0 rfl ?_
      refine S_ldK T.ag33 rfl (fun K' hK' => ?_)
      simp (disch := omega) only [u0, u1, u2, u3, u4, u5, u6, u7, v0, v1, o0, o1, o2, oP_some, Nat.add_zero]
      refine hK' _ ?_; clear hK' K'
      refine S_lenl T.el33 rfl ?_
      first | refine S_sub rfl rfl (by omega) (by omega) ?_ | refine S_bin rfl rfl rfl ?_
      refine S_mv rfl ?_
      first | refine S_add rfl rfl (by omega) (by omega) ?_ | refine S_bin rfl rfl rfl ?_
      refine S_as rfl ?_
      refine S_nil (hK18 _ _ (V_keep [2, 5, 7, 14] (by simp only [proj, lk, reduceIte, Nat.reduceEqDiff]; rfl) ?_)); clear hK18
      refine V_seq (fun K19 hK19 => ?_)
      refine V_sr T.mix (by kernel_rfl) (fun K20 hK20 => ?_)
      first | refine S_fa0 T.f32_0 rfl ?_ | refine S_fa T.f32_0 rfl ?_
      refine S_ldK T.ag3 rfl (fun K' hK' => ?_)
      simp (disch := omega) only [u0, u1, u2, u3, u4, u5, u6, u7, v0, v1, o0, o1, o2, oP_some, Nat.add_zero]
      refine hK' _ ?_; clear hK' K'
      refine S_bin rfl rfl rfl ?_
      refine S_nil (hK20 _ _ (V_keep [2, 5, 7, 14, 85] (by simp only [proj, lk, reduceIte, Nat.reduceEqDiff]; rfl) ?_)); clear hK20
      refine V_condp rfl (fun c69 => ?_) (fun c69 => ?_)
      · skip
        refine V_sr T.mix (by kernel_rfl) (fun K21 hK21 => ?_)
        refine S_mv rfl ?_
        refine S_call T.hb60 rfl ?_
        refine FC.mono (checkclause_spec hk ga gc uz.rg (hIg.ext hEk (fun _ _ f => f)) (by omega)) ?_
        rintro v' h' ⟨rfl, rfl⟩
        refine S_as rfl ?_
        refine S_nil (hK21 _ _ (V_keep [5, 7, 14, 15] (by simp only [proj, lk, reduceIte, Nat.reduceEqDiff]; rfl) ?_)); clear hK21
        refine V_sr T.mix (by kernel_rfl) (fun K22 hK22 => ?_)
        first | refine S_fa0 T.f36_0 rfl ?_ | refine S_fa T.f36_0 rfl ?_
        refine S_ldK T.ag33 rfl (fun K' hK' => ?_)
        simp (disch := omega) only [u0, u1, u2, u3, u4, u5, u6, u7, v0, v1, o0, o1, o2, oP_some, Nat.add_zero]
        refine hK' _ ?_; clear hK' K'
        first | refine S_fa0 T.f32_2 rfl ?_ | refine S_fa T.f32_2 rfl ?_
        refine S_ldK T.ag3 rfl (fun K' hK' => ?_)
        simp (disch := omega) only [u0, u1, u2, u3, u4, u5, u6, u7, v0, v1, o0, o1, o2, oP_some, Nat.add_zero]
        refine hK' _ ?_; clear hK' K'
        refine S_bin rfl rfl rfl ?_
        refine S_call T.hb61 rfl ?_
        have hcall := roomn_spec hk uz.cl ia (hIi.ext hEk (fun _ _ f => f)) (decide (ob ≠ 0))
        rw [show (decide (decide (ob ≠ 0) = true)) = decide (ob ≠ 0) by simp] at hcall
        refine FC.mono hcall ?_
        rintro v' h' ⟨rfl, rfl⟩
        refine S_as rfl ?_
        refine S_nil (hK22 _ _ (V_keep [14, 15, 16] (by simp only [proj, lk, reduceIte, Nat.reduceEqDiff]; rfl) ?_)); clear hK22
        refine V_seq (fun K23 hK23 => ?_)
        refine V_sr T.mix (by kernel_rfl) (fun K24 hK24 => ?_)
        refine S_mv rfl ?_
        refine S_bin rfl rfl rfl ?_
        refine S_mv rfl ?_
        refine S_dec (fun g72 => ?_) (fun g72 => ?_)
        · skip
          refine S_gt rfl ?_
          refine S_mv rfl ?_
          refine S_pt rfl rfl ?_
          refine S_nil (hK24 _ _ (V_keep [14, 98] (by simp only [proj, lk, reduceIte, Nat.reduceEqDiff]; rfl) ?_)); clear hK24
          refine V_condb rfl (fun c72 => ?_) (fun c72 => ?_)
          · skip
            refine V_sr T.mix (by kernel_rfl) (fun K25 hK25 => ?_)
            refine S_mv rfl ?_
            refine S_bin rfl rfl rfl ?_
            refine S_as rfl ?_
            refine S_nil (hK25 _ _ (V_keep [8] (by simp only [proj, lk, reduceIte, Nat.reduceEqDiff]; rfl) ?_)); clear hK25
            refine V_ret ?_
            refine hR _ _ (ret1 rfl rfl ?_)
            rw [if_pos ⟨c69, by omega, of_decide_eq_true c72⟩] at hcm
            exact ⟨by rw [decide_eq_true (by omega)], hEk⟩
          · skip
            refine V_skipk [14] (by simp only [proj, lk, reduceIte, Nat.reduceEqDiff]; rfl) ?_
            refine hK23 _ _ ?_; clear hK23
            refine V_sr T.mix (by kernel_rfl) (fun K26 hK26 => ?_)
            refine S_mv rfl ?_
            refine S_bin rfl rfl rfl ?_
            refine S_as rfl ?_
            refine S_nil (hK26 _ _ (V_keep [8] (by simp only [proj, lk, reduceIte, Nat.reduceEqDiff]; rfl) ?_)); clear hK26
            refine V_ret ?_
            refine hR _ _ (ret1 rfl rfl ?_)
            rw [if_neg (fun z => of_decide_eq_false c72 z.2.2)] at hcm
            exact ⟨by rw [decide_eq_true (by omega)], hEk⟩
        · skip
          refine S_gf rfl ?_
          refine S_pf rfl rfl ?_
          refine S_nil (hK24 _ _ (V_keep [14, 98] (by simp only [proj, lk, reduceIte, Nat.reduceEqDiff]; rfl) ?_)); clear hK24
          refine V_condf rfl ?_
          refine V_skipk [14] (by simp only [proj, lk, reduceIte, Nat.reduceEqDiff]; rfl) ?_
          refine hK23 _ _ ?_; clear hK23
          refine V_sr T.mix (by kernel_rfl) (fun K27 hK27 => ?_)
          refine S_mv rfl ?_
          refine S_bin rfl rfl rfl ?_
          refine S_as rfl ?_
          refine S_nil (hK27 _ _ (V_keep [8] (by simp only [proj, lk, reduceIte, Nat.reduceEqDiff]; rfl) ?_)); clear hK27
          refine V_ret ?_
          refine hR _ _ (ret1 rfl rfl ?_)
          rw [if_neg (fun z => g72 (by have h9 := z.2.1; omega))] at hcm
          exact ⟨by rw [decide_eq_true (by omega)], hEk⟩
      · skip
        refine V_skipk [14] (by simp only [proj, lk, reduceIte, Nat.reduceEqDiff]; rfl) ?_
        refine hK19 _ _ ?_; clear hK19
        refine V_sr T.mix (by kernel_rfl) (fun K28 hK28 => ?_)
        refine S_mv rfl ?_
        refine S_bin rfl rfl rfl ?_
        refine S_as rfl ?_
        refine S_nil (hK28 _ _ (V_keep [8] (by simp only [proj, lk, reduceIte, Nat.reduceEqDiff]; rfl) ?_)); clear hK28
        refine V_ret ?_
        refine hR _ _ (ret1 rfl rfl ?_)
        rw [if_neg (fun z => c69 z.1)] at hcm
        exact ⟨by rw [decide_eq_true (by omega)], hEk⟩
set_option maxHeartbeats 6400000 in
theorem sut_spec (h : Heap) (sa : Option Addr) (n cap : Nat) (hs : Scr h.size h sa n) (hn : n ≤ 9223372036854775807) :
    FC Tryz.prog 8 (#[.slice sa n cap] : Array Value) h fun v h' => v = .int .i64 (-1) ∧ Ext (fun b => h.size ≤ b) h h' := by
  refine FC_of [(0, .slice sa n cap)] Tryz.func8 rfl Tryz.ntmps8 (by simp) rfl (fun R hR => ?_)
  refine V_sr T.mix (by kernel_rfl) (fun K1 hK1 => ?_)
  refine S_as rfl ?_
  refine S_nil (hK1 _ _ (V_keep [0] (by simp only [proj, lk, reduceIte, Nat.reduceEqDiff]; rfl) ?_)); clear hK1
  refine V_sr T.mix (by kernel_rfl) (fun K2 hK2 => ?_)
  refine S_call T.hb9 rfl ?_
  refine FC.mono (newworld_spec h) ?_
  rintro v' h1 ⟨A, tg1, u1, rfl, hAb, w1, hcl1, hs1, _, hE1⟩
  refine S_as rfl ?_
  refine S_nil (hK2 _ _ (V_keep [0, 3] (by simp only [proj, lk, reduceIte, Nat.reduceEqDiff]; rfl) ?_)); clear hK2
  refine V_seq (fun K3 hK3 => ?_)
  refine V_sr T.mix (by kernel_rfl) (fun K4 hK4 => ?_)
  refine S_mv rfl ?_
  refine S_call T.hb14 rfl ?_
  refine FC.mono (bare_spec h1 tg1 A u1 0 w1 hcl1 hs1) ?_
  rintro v' h2 ⟨rfl, hE2⟩
  have w2 := w1.new hE2
  have hE02 : Ext (fun b => h.size ≤ b) h h2 := (hE1.trans hE2).mono fun _ f => f.elim
  refine S_notb rfl ?_
  refine S_nil (hK4 _ _ (V_keep [0, 3, 12] (by simp only [proj, lk, reduceIte, Nat.reduceEqDiff]; rfl) ?_)); clear hK4
  refine V_condb rfl (fun c140 => ?_) (fun c140 => ?_)
  · skip
    cases c140
  · skip
    refine V_skipk [0, 3] (by simp only [proj, lk, reduceIte, Nat.reduceEqDiff]; rfl) ?_
    refine hK3 _ _ ?_; clear hK3
    refine V_seq (fun K5 hK5 => ?_)
    refine V_sr T.mix (by kernel_rfl) (fun K6 hK6 => ?_)
    refine S_as rfl ?_
    refine S_nil (hK6 _ _ (V_keep [0, 3, 4] (by simp only [proj, lk, reduceIte, Nat.reduceEqDiff]; rfl) ?_)); clear hK6
    refine V_block ?_
    refine V_loop (fun m l h' => ∃ (i : Nat) (hk : Heap) (tgk : Nat → Nat) (uk : US), (i ≤ n) ∧ (i ≤ 4398046511104) ∧ (UI hk tgk A uk (12 * i)) ∧ (Ext (fun b => h.size ≤ b) h hk) ∧ m = n - i ∧ l = [(0, .slice sa n cap), (3, .pointer (some ⟨A.U, 0, none⟩)), (4, .int .i64 i)] ∧ hk = h') _ ⟨0, h2, tg1, u1, by omega, by omega, w2, hE02, rfl, rfl, rfl⟩ ?_
    rintro m l h' ⟨i, hk, tgk, uk, hi, hi2, w, hE, rfl, rfl, rfl⟩ K7 hK7
    have hkb := hE.1
    refine V_seq (fun K8 hK8 => ?_)
    refine V_sr T.mix (by kernel_rfl) (fun K9 hK9 => ?_)
    refine S_cut (K' := fun l h' => ∃ b : Bool, (b = true ↔ (i < n ∧ i < 4398046511104)) ∧ l = [(0, .slice sa n cap), (3, .pointer (some ⟨A.U, 0, none⟩)), (4, .int .i64 i), (20, .bool b)] ∧ hk = h') ?_ ?_
    · skip
      refine S_mv rfl ?_
      refine S_mv rfl ?_
      refine S_lenl T.el22 rfl ?_
      refine S_bin rfl rfl rfl ?_
      refine S_mv rfl ?_
      refine S_dec (fun g143 => ?_) (fun g143 => ?_)
      · skip
        refine S_gt rfl ?_
        refine S_mv rfl ?_
        refine S_gt rfl ?_
        refine S_bin rfl rfl rfl ?_
        refine S_pt rfl rfl ?_
        exact S_nilk [0, 3, 4, 20] (by simp only [proj, lk, reduceIte, Nat.reduceEqDiff]; rfl) ⟨_, (by first | (simp [*]; done) | (simp; omega)), rfl, rfl⟩
      · skip
        refine S_gf rfl ?_
        refine S_gf rfl ?_
        refine S_pf rfl rfl ?_
        exact S_nilk [0, 3, 4, 20] (by simp only [proj, lk, reduceIte, Nat.reduceEqDiff]; rfl) ⟨_, (by first | (simp [*]; done) | (simp; omega)), rfl, rfl⟩
    rintro l h' ⟨b, hb143, rfl, rfl⟩
    refine hK9 _ _ ?_; clear hK9
    refine V_condb rfl (fun c143 => ?_) (fun c143 => ?_)
    · replace c143 := hb143.1 c143
      refine V_skipk [0, 3, 4] (by simp only [proj, lk, reduceIte, Nat.reduceEqDiff]; rfl) ?_
      refine hK8 _ _ ?_; clear hK8
      refine V_seq (fun K11 hK11 => ?_)
      refine V_block ?_
      refine V_sr T.mix (by kernel_rfl) (fun K12 hK12 => ?_)
      refine S_mv rfl ?_
      refine S_call T.hb15 rfl ?_
      refine FC.mono (hold_spec hk A uk w.dd uk.mm uk.cl uk.G uk.F uk.s w.mv) ?_
      rintro v' h2x ⟨ia, pa, pc, rfl, hIi, hlv, hib, hE2x⟩
      refine S_allocA T.z36 ?_
      generalize hh : Array.push h2x _ = h3
      have hV3 : B h3 h2x.size #[.slice none 0 0, .slice none 0 0] 36 := by rw [← hh]; exact B.new _ _ _
      have hEh3 : Ext (fun _ => False) h2x h3 := by rw [← hh]; exact Ext.push _ _ _
      have hsh3 : h3.size = h2x.size + 1 := by rw [← hh]; simp
      clear hh
      try clear v0 v1 hvok
      obtain ⟨v0, v1, hvok⟩ := hq2 (hV3)
      refine S_stl T.sz36 rfl rfl rfl rfl (fun j hj => by simp (disch := omega) only [hvok]) ?_
      generalize hh : putsH _ _ _ _ = h4
      have hV4 : B h4 (h2x.size) #[.slice ia (idsF uk.cl 52).length (idsF uk.cl 52).length, .slice pa (liveL uk.cl).length pc] 36 := by rw [← hh]; exact B.puts_all (hV3) (cs' := #[.slice ia (idsF uk.cl 52).length (idsF uk.cl 52).length, .slice pa (liveL uk.cl).length pc]) rfl
      have hEh4 : Ext (fun k => k = h2x.size) h3 h4 := by rw [← hh]; exact Ext.puts (S := fun k => k = h2x.size) rfl _ _ _
      clear hh
      have hs2x := hE2x.1
      have hs3z := hEh3.1
      have hs4z := hEh4.1
      have w4 := ((w.new hE2x).new hEh3).ext hEh4 (fun b e => by rw [e]; exact w.z _ hs2x)
      try clear u0 u1 u2 u3 u4 u5 u6 u7 huok
      obtain ⟨u0, u1, u2, u3, u4, u5, u6, u7, huok⟩ := uq (w4.dd)
      refine S_nil (hK12 _ _ (V_keep [0, 3, 4, 5] (by simp only [proj, lk, reduceIte, Nat.reduceEqDiff]; rfl) ?_)); clear hK12
      refine V_sr T.mix (by kernel_rfl) (fun K13 hK13 => ?_)
      refine S_mv rfl ?_
      refine S_nc rfl ?_
      first | refine S_fa0 T.f48_3 rfl ?_ | refine S_fa T.f48_3 rfl ?_
      refine S_ldK T.ag33 rfl (fun K' hK' => ?_)
      simp (disch := omega) only [u0, u1, u2, u3, u4, u5, u6, u7, oP_some, Nat.add_zero]
      refine hK' _ ?_; clear hK' K'
      refine S_call T.hb16 rfl ?_
      refine FC.mono (copyints_spec h4 uk.ra uk.rc uk.rg w4.rg (by have h9 := w.rl; omega)) ?_
      rintro v' h5 ⟨ga, rfl, hIg, hE5, _, hgb⟩
      have w5 := w4.new hE5
      refine S_as rfl ?_
      refine S_nil (hK13 _ _ (V_keep [0, 3, 4, 5, 6] (by simp only [proj, lk, reduceIte, Nat.reduceEqDiff]; rfl) ?_)); clear hK13
      refine V_sr T.mix (by kernel_rfl) (fun K14 hK14 => ?_)
      refine S_mv rfl ?_
      refine S_call T.hb17 rfl ?_
      refine FC.mono (row_spec h5 A uk w5.dd uk.mm uk.cl uk.G uk.F uk.s w5.mv) ?_
      rintro v' h6 ⟨ro, rc, rfl, hro, hE6⟩
      have w6 := w5.new hE6
      have hEk6 : Ext (fun b => b = h2x.size) hk h6 := (((hE2x.mono fun _ f => f.elim).trans (hEh3.mono fun _ f => f.elim)).trans hEh4).trans ((hE5.trans hE6).mono fun _ f => f.elim)
      have hs6 := hEk6.1
      have hs5 := hE5.1
      have hE06 : Ext (fun b => h.size ≤ b) h h6 := hE.trans (hEk6.mono fun b e => by omega)
      refine S_as rfl ?_
      refine S_nil (hK14 _ _ (V_keep [0, 3, 4, 5, 6, 7] (by simp only [proj, lk, reduceIte, Nat.reduceEqDiff]; rfl) ?_)); clear hK14
      refine V_seq (fun K15 hK15 => ?_)
      refine V_sr T.mix (by kernel_rfl) (fun K16 hK16 => ?_)
      refine S_mv rfl ?_
      refine S_mv rfl ?_
      refine S_mv rfl ?_
      obtain ⟨sb, so, hsae, hlt, k, oa, ob, oc, os, ot, hc⟩ := hs i (by exact c143.1)
      have hsl : sb < h.size := hlt
      have scr : ∀ hx, Ext (fun b => h.size ≤ b) h hx → cellsH hx ⟨sb, so + i * 6, none⟩ 0 6 = some [.int .i64 k, .int .i64 oa, .int .i64 ob, .int .i64 oc, .string os, .string ot] := fun hx he => by rw [cellsH_same (he.2 sb (by omega) (by omega))]; exact hc
      subst hsae
      refine S_ix T.el22 rfl rfl (by omega) (by omega) ?_
      refine S_ldn T.ag32 rfl (by simpa using scr h6 hE06) ?_
      refine S_call T.hb11 rfl ?_
      refine FC.mono (play_spec h6 tgk A uk (12 * i) w6 k oa ob oc os ot (by omega)) ?_
      rintro v' h7 ⟨rfl, tg7, u7, w7, hpl, hkp7⟩
      have hE7 : Ext (fun b => h.size ≤ b) h h7 := hE06.trans (by have h9 := w.low hkp7; rw [hAb] at h9; exact h9)
      have nz : ∀ b, hk.size ≤ b → ¬ tgk b ≠ 0 := fun b e z => z (w.z b e)
      have hs7 := hkp7.1.1
      have hIi7 := ((((hIi.ext hEh3 (fun _ _ f => f)).ext hEh4 (fun b e z => by have h9 := hIi.lt e; omega)).ext (hE5.trans hE6) (fun _ _ f => f)).ext hkp7.1 (fun b e => nz b (hib b e)))
      have hlv7 := ((((hlv.ext hEh3 (fun z _ _ f => f)).ext hEh4 (fun z q1 q2 e => by omega)).ext (hE5.trans hE6) (fun z _ _ f => f)).ext hkp7.1 (fun z q1 _ => nz z q1))
      have hIg7 := (hIg.ext hE6 (fun _ _ f => f)).ext hkp7.1 (fun b e => nz b (by have h9 := hgb b e; omega))
      have hV7 := (hV4.ext (hE5.trans hE6) (fun f => f)).ext hkp7.1 (nz _ (by omega))
      have hro7 := OwnR.ext hro hkp7.1 (fun b e => nz b (by have h9 := (OwnR.blk2 hro (show blkA ro = some b by rw [e]; rfl)).1; omega))
      refine S_notb rfl ?_
      refine S_nil (hK16 _ _ (V_keep [0, 3, 4, 5, 6, 7, 38] (by simp only [proj, lk, reduceIte, Nat.reduceEqDiff]; rfl) ?_)); clear hK16
      refine V_condb rfl (fun c147 => ?_) (fun c147 => ?_)
      · skip
        cases c147
      · skip
        refine V_skipk [0, 3, 4, 5, 6, 7] (by simp only [proj, lk, reduceIte, Nat.reduceEqDiff]; rfl) ?_
        refine hK15 _ _ ?_; clear hK15
        refine V_seq (fun K17 hK17 => ?_)
        refine V_sr T.mix (by kernel_rfl) (fun K18 hK18 => ?_)
        refine S_mv rfl ?_
        refine S_call T.hb12 rfl ?_
        refine FC.mono (sametrails_spec h7 tg7 A u7 (12 * i + 12) w7) ?_
        rintro v' h' ⟨rfl, rfl⟩
        refine S_notb rfl ?_
        refine S_nil (hK18 _ _ (V_keep [0, 3, 4, 5, 6, 7, 42] (by simp only [proj, lk, reduceIte, Nat.reduceEqDiff]; rfl) ?_)); clear hK18
        refine V_condb rfl (fun c150 => ?_) (fun c150 => ?_)
        · skip
          cases c150
        · skip
          refine V_skipk [0, 3, 4, 5, 6, 7] (by simp only [proj, lk, reduceIte, Nat.reduceEqDiff]; rfl) ?_
          refine hK17 _ _ ?_; clear hK17
          refine V_seq (fun K19 hK19 => ?_)
          refine V_sr T.mix (by kernel_rfl) (fun K20 hK20 => ?_)
          refine S_mv rfl ?_
          refine S_ldn T.ag36 rfl (hV7.all rfl) ?_
          refine S_mv rfl ?_
          refine S_mv rfl ?_
          refine S_mv rfl ?_
          refine S_ix T.el22 rfl rfl (by omega) (by omega) ?_
          refine S_ldn T.ag32 rfl (by simpa using scr h7 hE7) ?_
          refine S_call T.hb18 rfl ?_
          have mv7 : MV h7 A.M A.Y u7.mm (plCl uk k oa ob) u7.G u7.F u7.s := by have h9 := w7.mv; rw [hpl.1] at h9; exact h9
          refine FC.mono (lasts_spec h7 A u7 w7.dd uk k oa ob oc os ot u7.mm u7.G u7.F u7.s mv7 (fun n hn c hc => (w.mv.r.c n hn c hc).1) ia hIi7 pa pc _ _ hlv7 ga _ hIg7 w.rl) ?_
          rintro v' h8 ⟨rfl, hE8⟩
          have w8 := w7.new hE8
          have hE08 : Ext (fun b => h.size ≤ b) h h8 := hE7.trans (hE8.mono fun _ f => f.elim)
          have kcell := cells6_0 (scr h8 hE08)
          refine S_notb rfl ?_
          refine S_nil (hK20 _ _ (V_keep [0, 3, 4, 7, 52] (by simp only [proj, lk, reduceIte, Nat.reduceEqDiff]; rfl) ?_)); clear hK20
          refine V_condb rfl (fun c153 => ?_) (fun c153 => ?_)
          · skip
            cases c153
          · skip
            refine V_skipk [0, 3, 4, 7] (by simp only [proj, lk, reduceIte, Nat.reduceEqDiff]; rfl) ?_
            refine hK19 _ _ ?_; clear hK19
            refine V_sr T.mix (by kernel_rfl) (fun K21 hK21 => ?_)
            refine S_mv rfl ?_
            refine S_mv rfl ?_
            refine S_ix T.el22 rfl rfl (by omega) (by omega) ?_
            first | refine S_fa0 T.f32_0 rfl ?_ | refine S_fa T.f32_0 rfl ?_
            refine S_ldK T.ag3 rfl (fun K' hK' => ?_)
            simp (disch := omega) only [kcell, Int.toNat_natCast, oP_some, Nat.add_zero]
            refine hK' _ ?_; clear hK' K'
            refine S_call T.hb19 rfl ?_
            refine FC.mono (moves_spec h8 k) ?_
            rintro v' h' ⟨g, rfl, hg, rfl⟩
            refine S_notb rfl ?_
            refine S_nil (hK21 _ _ (V_keep [0, 3, 4, 7, 60] (by simp only [proj, lk, reduceIte, Nat.reduceEqDiff]; rfl) ?_)); clear hK21
            refine V_condb rfl (fun c156 => ?_) (fun c156 => ?_)
            · skip
              refine V_sr T.mix (by kernel_rfl) (fun K22 hK22 => ?_)
              refine S_mv rfl ?_
              refine S_call T.hb17 rfl ?_
              refine FC.mono (row_spec h8 A u7 w8.dd u7.mm u7.cl u7.G u7.F u7.s w8.mv) ?_
              rintro v' h9 ⟨ro2, rc2, rfl, hro2, hE9⟩
              refine S_as rfl ?_
              refine S_nil (hK22 _ _ (V_keep [0, 3, 4, 7, 8] (by simp only [proj, lk, reduceIte, Nat.reduceEqDiff]; rfl) ?_)); clear hK22
              refine V_sr T.mix (by kernel_rfl) (fun K23 hK23 => ?_)
              refine S_mv rfl ?_
              refine S_mv rfl ?_
              refine S_call T.hb20 rfl ?_
              have hse : u7.s = uk.s := hpl.2 (fun e => by rw [hg.2 e] at c156; simp at c156)
              rw [hse] at hro2 ⊢
              have hrl := row3_len uk.s 14
              refine FC.mono (sameints_spec h9 ro ro2 _ _ (row3 uk.s 14) (row3 uk.s 14) (own0 (OwnR.ext (OwnR.ext hro7 hE8 (fun _ _ f => f)) hE9 (fun _ _ f => f))) (own0 hro2) (by omega) (by omega)) ?_
              rintro v' h' ⟨rfl, rfl⟩
              refine S_notb rfl ?_
              refine S_nil (hK23 _ _ (V_keep [0, 3, 4, 66] (by simp only [proj, lk, reduceIte, Nat.reduceEqDiff]; rfl) ?_)); clear hK23
              refine V_condb rfl (fun c158 => ?_) (fun c158 => ?_)
              · skip
                exfalso; simp at c158
              · skip
                refine V_skipk [0, 3, 4] (by simp only [proj, lk, reduceIte, Nat.reduceEqDiff]; rfl) ?_
                refine hK11 _ _ ?_; clear hK11
                refine V_reg T.mix (by kernel_rfl) ?_
                refine S_mv rfl ?_
                first | refine S_add rfl rfl (by omega) (by omega) ?_ | refine S_bin rfl rfl rfl ?_
                refine S_as rfl ?_
                refine S_nilk [0, 3, 4] (by simp only [proj, lk, reduceIte, Nat.reduceEqDiff]; rfl) ?_
                exact hK7 _ _ ⟨_, by omega, i + 1, h9, tg7, u7, by omega, by omega, w8.new hE9, hE08.trans (hE9.mono fun _ f => f.elim), rfl, rfl, rfl⟩
            · skip
              refine V_skipk [0, 3, 4] (by simp only [proj, lk, reduceIte, Nat.reduceEqDiff]; rfl) ?_
              refine hK11 _ _ ?_; clear hK11
              refine V_reg T.mix (by kernel_rfl) ?_
              refine S_mv rfl ?_
              first | refine S_add rfl rfl (by omega) (by omega) ?_ | refine S_bin rfl rfl rfl ?_
              refine S_as rfl ?_
              refine S_nilk [0, 3, 4] (by simp only [proj, lk, reduceIte, Nat.reduceEqDiff]; rfl) ?_
              exact hK7 _ _ ⟨_, by omega, i + 1, h8, tg7, u7, by omega, by omega, w8, hE08, rfl, rfl, rfl⟩
    · replace c143 : ¬ _ := fun hp => Bool.false_ne_true (c143.symm.trans (hb143.2 hp))
      refine V_exitk [] rfl (by simp only [proj, lk, reduceIte, Nat.reduceEqDiff]; rfl) ?_
      refine hK5 _ _ ?_; clear hK5
      refine V_sr T.mix (by kernel_rfl) (fun K24 hK24 => ?_)
      refine S_as rfl ?_
      refine S_nil (hK24 _ _ (V_keep [2] (by simp only [proj, lk, reduceIte, Nat.reduceEqDiff]; rfl) ?_)); clear hK24
      refine V_ret ?_
      refine hR _ _ (ret1 rfl rfl ?_)
      exact ⟨rfl, hE⟩
set_option maxHeartbeats 400000 in
theorem stays_spec (h : Heap) (sa : Option Addr) (n cap : Nat) (hs : Scr h.size h sa n) (hn : n ≤ 9223372036854775807) :
    FC Tryz.prog 5 (#[.slice sa n cap] : Array Value) h fun v h' => v = .bool true ∧ Ext (fun b => h.size ≤ b) h h' := by
  refine FC_of [(0, .slice sa n cap)] Tryz.func5 rfl Tryz.ntmps5 (by simp) rfl (fun R hR => ?_)
  refine V_sr T.mix (by kernel_rfl) (fun K1 hK1 => ?_)
  refine S_as rfl ?_
  refine S_nil (hK1 _ _ (V_keep [0] (by simp only [proj, lk, reduceIte, Nat.reduceEqDiff]; rfl) ?_)); clear hK1
  refine V_sr T.mix (by kernel_rfl) (fun K2 hK2 => ?_)
  refine S_mv rfl ?_
  refine S_call T.hb8 rfl ?_
  refine FC.mono (sut_spec h sa n cap hs hn) ?_
  rintro v h2 ⟨rfl, hE⟩
  refine S_as rfl ?_
  refine S_nil (hK2 _ _ (V_keep [3] (by simp only [proj, lk, reduceIte, Nat.reduceEqDiff]; rfl) ?_)); clear hK2
  refine V_sr T.mix (by kernel_rfl) (fun K3 hK3 => ?_)
  refine S_mv rfl ?_
  refine S_bin rfl rfl rfl ?_
  refine S_as rfl ?_
  refine S_nil (hK3 _ _ (V_keep [2] (by simp only [proj, lk, reduceIte, Nat.reduceEqDiff]; rfl) ?_)); clear hK3
  refine V_ret ?_
  refine hR _ _ (ret1 rfl rfl ?_)
  exact ⟨rfl, hE⟩
end Go.Proofs.Qxb6500403aGreat
