import Derived.Test.Qxb6500401aGreatLe
set_option linter.unusedVariables false
set_option linter.unusedSimpArgs false
namespace Go.Chk
open Go.Cnf
def dl (r : Rw) : Nat := if r.1 then 1 else 0
theorem oneR_len (r : Rw) : (oneR r).length = dl r + r.2.length + 1 := by
  unfold oneR dl; cases r.1 <;> simp; omega
theorem getD_mid (A c D : List Int) (k : Nat) (hk : k < c.length) : (A ++ c ++ D).getD (A.length + k) 0 = c.getD k 0 := by
  rw [List.append_assoc, List.getD_eq_getElem?_getD, List.getElem?_append_right (by omega), show A.length + k - A.length = k by omega, List.getElem?_append_left hk, ← List.getD_eq_getElem?_getD]
theorem rd_form (pre : List Int) (r : Rw) (post : List Int) : pre ++ oneR r ++ post = (pre ++ (if r.1 then [13] else [])) ++ r.2 ++ (0 :: post) := by
  unfold oneR; simp [List.append_assoc]
theorem rd_hl (pre : List Int) (r : Rw) : (pre ++ (if r.1 then [13] else [])).length = pre.length + dl r := by
  unfold dl; cases r.1 <;> simp
theorem rd_lit (pre : List Int) (r : Rw) (post : List Int) (k : Nat) (hk : k < r.2.length) : (pre ++ oneR r ++ post).getD (pre.length + dl r + k) 0 = r.2.getD k 0 := by
  rw [rd_form, ← rd_hl]; exact getD_mid _ _ _ _ hk
theorem rd_zero (pre : List Int) (r : Rw) (post : List Int) : (pre ++ oneR r ++ post).getD (pre.length + dl r + r.2.length) 0 = 0 := by
  rw [rd_form, ← rd_hl, ← List.length_append, List.getD_eq_getElem?_getD, List.getElem?_append_right (by omega)]; simp
theorem rd_len (pre : List Int) (r : Rw) (post : List Int) : (pre ++ oneR r ++ post).length = pre.length + dl r + r.2.length + 1 + post.length := by
  simp [oneR_len]; omega
theorem gd_getD {c : List Int} (h : ∀ l ∈ c, gd l) {k : Nat} (hk : k < c.length) : gd (c.getD k 0) := by
  rw [List.getD_eq_getElem?_getD, List.getElem?_eq_getElem hk]; exact h _ (List.getElem_mem hk)
theorem rd_del (pre : List Int) (r : Rw) (post : List Int) (hn : ∀ l ∈ r.2, gd l) : (pre ++ oneR r ++ post).getD pre.length 0 = 13 ↔ r.1 = true := by
  obtain ⟨d, c⟩ := r
  cases d
  · simp only [Bool.false_eq_true, iff_false]
    intro h
    have e : (pre ++ oneR (false, c) ++ post).getD pre.length 0 = (c ++ [0]).getD 0 0 := by
      have := getD_mid pre (c ++ [0]) post 0 (by simp)
      simpa [oneR] using this
    rw [e] at h
    cases c with
    | nil => simp at h
    | cons x xs => simp at h; have := hn x (by simp); unfold gd at this; omega
  · simp only [iff_true]
    simp [oneR, List.getD_eq_getElem?_getD, List.getElem?_append]
theorem take_snoc {c : List Int} {k : Nat} (hk : k < c.length) : c.take (k + 1) = c.take k ++ [c.getD k 0] := by
  rw [List.take_add_one]; simp [hk]
theorem flatR_app (a c : List Rw) : flatR (a ++ c) = flatR a ++ flatR c := by simp [flatR]
theorem flatR_one (r : Rw) : flatR [r] = oneR r := by simp [flatR]
theorem rows_split (rows : List Rw) {j : Nat} (hj : j < rows.length) : rows = rows.take j ++ [rows.getD j (false, [])] ++ rows.drop (j + 1) := by
  simp [hj]
theorem rtake_snoc {rows : List Rw} {j : Nat} (hj : j < rows.length) : rows.take (j + 1) = rows.take j ++ [rows.getD j (false, [])] := by
  rw [List.take_add_one]; simp [hj]
theorem flat_split (rows : List Rw) {j : Nat} (hj : j < rows.length) : flatR rows = flatR (rows.take j) ++ oneR (rows.getD j (false, [])) ++ flatR (rows.drop (j + 1)) := by
  conv => lhs; rw [rows_split rows hj]
  rw [flatR_app, flatR_app, flatR_one]
theorem flat_next {rows : List Rw} {j : Nat} (hj : j < rows.length) : (flatR (rows.take (j + 1))).length = (flatR (rows.take j)).length + (oneR (rows.getD j (false, []))).length := by
  rw [rtake_snoc hj, flatR_app, flatR_one, List.length_append]
theorem flat_lt {rows : List Rw} {j : Nat} (hj : j ≤ rows.length) : (flatR (rows.take j)).length < (flatR rows).length ↔ j < rows.length := by
  constructor
  · intro h
    rcases Nat.lt_or_ge j rows.length with e | e
    · exact e
    · rw [show j = rows.length by omega, List.take_length] at h; omega
  · intro h
    rw [flat_split rows h]; simp [oneR_len]; omega
theorem rmem {rows : List Rw} {j : Nat} (hj : j < rows.length) : rows.getD j (false, []) ∈ rows := by
  rw [List.getD_eq_getElem?_getD, List.getElem?_eq_getElem hj]; exact List.getElem_mem hj
/-- the rows of a flat form -/
def stepR (o : List Rw × Rw) (x : Int) : List Rw × Rw := if x = 13 then (o.1, (true, o.2.2)) else if x = 0 then (o.1 ++ [o.2], (false, [])) else (o.1, (o.2.1, o.2.2 ++ [x]))
def rowsAt (l : List Int) : List Rw × Rw := l.foldl stepR ([], (false, []))
def rowsOf (l : List Int) : List Rw := (rowsAt l).1
theorem lit_fold : ∀ (c : List Int) (o : List Rw) (d : Bool) (e : List Int), (∀ l ∈ c, gd l) → c.foldl stepR (o, (d, e)) = (o, (d, e ++ c))
  | [], o, d, e, _ => by simp
  | x :: c, o, d, e, h => by
    have hx := h x (by simp)
    unfold gd at hx
    rw [List.foldl_cons, show stepR (o, (d, e)) x = (o, (d, e ++ [x])) by unfold stepR; rw [if_neg (by omega), if_neg (by omega)], lit_fold c o d _ (fun l hl => h l (by simp [hl]))]
    simp
theorem row_fold (r : Rw) (o : List Rw) (h : ∀ l ∈ r.2, gd l) : (oneR r).foldl stepR (o, (false, [])) = (o ++ [r], (false, [])) := by
  obtain ⟨d, c⟩ := r
  unfold oneR
  rw [List.foldl_append, List.foldl_append]
  have e : (if d = true then [13] else []).foldl stepR (o, (false, [])) = (o, (d, [])) := by cases d <;> rfl
  simp only [e]
  rw [lit_fold c o d [] h]
  rfl
theorem rows_fold : ∀ (rows : List Rw) (o : List Rw), NrmR rows → (flatR rows).foldl stepR (o, (false, [])) = (o ++ rows, (false, []))
  | [], o, _ => by simp [flatR]
  | r :: rows, o, h => by
    rw [show flatR (r :: rows) = oneR r ++ flatR rows from rfl, List.foldl_append, row_fold r o (h r (by simp)).1, rows_fold rows _ (fun x hx => h x (by simp [hx]))]
    simp
theorem rowsOf_flat {rows : List Rw} (h : NrmR rows) : rowsOf (flatR rows) = rows := by
  unfold rowsOf rowsAt; rw [rows_fold rows [] h]; simp
theorem rowsOf_ok {l : List Int} (h : flatOk l = true) : flatR (rowsOf l) = l ∧ NrmR (rowsOf l) := by
  obtain ⟨rows, rfl, hn⟩ := flat_rows h
  rw [rowsOf_flat hn]; exact ⟨rfl, hn⟩
theorem rows_nil : rowsOf [] = [] := rfl
theorem mem13 : ∀ {rows : List Rw}, NrmR rows → ((13 : Int) ∈ flatR rows ↔ ∃ r ∈ rows, r.1 = true)
  | [], _ => by simp [flatR]
  | r :: rows, h => by
    rw [show flatR (r :: rows) = oneR r ++ flatR rows from rfl, List.mem_append, mem13 (fun x hx => h x (by simp [hx]))]
    have : (13 : Int) ∈ oneR r ↔ r.1 = true := by
      unfold oneR
      have hc : (13 : Int) ∉ r.2 := fun hm => by have := (h r (by simp)).1 13 hm; unfold gd at this; omega
      cases e : r.1 <;> simp [e, hc]
    rw [this]; simp
theorem count0 : ∀ {rows : List Rw}, NrmR rows → (flatR rows).count 0 = rows.length
  | [], _ => by simp [flatR]
  | r :: rows, h => by
    rw [show flatR (r :: rows) = oneR r ++ flatR rows from rfl, List.count_append, count0 (fun x hx => h x (by simp [hx]))]
    have : (oneR r).count 0 = 1 := by
      unfold oneR
      rw [List.count_append, List.count_append]
      have h1 : r.2.count 0 = 0 := List.count_eq_zero.2 (fun hm => by have := (h r (by simp)).1 0 hm; unfold gd at this; omega)
      rw [h1]
      cases r.1 <;> simp
    rw [this]; simp; omega
/-- may the rows be a problem's -/
def fitF (rows : List Rw) : Nat := if ∃ r ∈ rows, r.1 = true then 16 else if 40 < rows.length then 17 else 0
abbrev Sto := List (List Int)
/-- all ways to leave some out -/
def subs : List Int → List (List Int)
  | [] => [[]]
  | x :: l => subs l ++ (subs l).map (fun t => x :: t)
theorem subs_filter (p : Int → Bool) : ∀ l : List Int, l.filter p ∈ subs l
  | [] => by simp [subs]
  | x :: l => by
    unfold subs
    rw [List.filter_cons]
    split
    · exact List.mem_append.2 (.inr (List.mem_map.2 ⟨_, subs_filter p l, rfl⟩))
    · exact List.mem_append.2 (.inl (subs_filter p l))
def litsF (S : Sto) (c : List Int) : List Int := c.map (fun x => -x) ++ (S.flatten ++ S.flatten.map (fun x => -x))
/-- may T be the end -/
def endB (S : Sto) (c : List Int) (T : List Int) : Prop := (∀ l ∈ c, -l ∈ T) ∧ (∀ x ∈ T, -x ∉ T) ∧ ∀ r ∈ S, (∃ l ∈ r, l ∈ T) ∨ ∃ x ∈ r, ∃ y ∈ r, x ≠ y ∧ -x ∉ T ∧ -y ∉ T
def endD (S : Sto) (c : List Int) (T : List Int) : Decidable (endB S c T) := by unfold endB; infer_instance
def fixB (S : Sto) (c : List Int) : Bool := (subs (litsF S c)).any fun T => @decide (endB S c T) (endD S c T)
theorem fixB_iff {S : Sto} {c : List Int} : fixB S c = true ↔ Fix S (deny c) := by
  unfold fixB
  rw [List.any_eq_true]
  constructor
  · rintro ⟨T, _, hT⟩
    have h := @of_decide_eq_true _ (endD S c T) hT
    exact ⟨fun x => x ∈ T, fun l hl => by have h9 := h.1 _ hl; rwa [Int.neg_neg] at h9, fun l hl => h.2.1 l hl, h.2.2⟩
  · rintro ⟨T, h1, h2, h3⟩
    have hd : ∀ x, Decidable (T x) := fun x => Classical.propDecidable _
    have hm : ∀ x, x ∈ (litsF S c).filter (fun x => @decide (T x) (hd x)) ↔ x ∈ litsF S c ∧ T x := fun x => by
      rw [List.mem_filter]
      exact ⟨fun h => ⟨h.1, @of_decide_eq_true _ (hd x) h.2⟩, fun h => ⟨h.1, @decide_eq_true _ (hd x) h.2⟩⟩
    refine ⟨(litsF S c).filter (fun x => @decide (T x) (hd x)), subs_filter _ _, @decide_eq_true _ (endD S c _) ⟨fun l hl => (hm _).2 ⟨?_, h1 _ (by unfold deny; rw [Int.neg_neg]; exact hl)⟩, fun x hx hn => h2 x ((hm x).1 hx).2 ((hm _).1 hn).2, fun r hr => ?_⟩⟩
    · exact List.mem_append.2 (.inl (List.mem_map.2 ⟨l, hl, rfl⟩))
    · rcases h3 r hr with ⟨l, hl, ht⟩ | ⟨x, hx, y, hy, hne, e1, e2⟩
      · exact .inl ⟨l, hl, (hm l).2 ⟨List.mem_append.2 (.inr (List.mem_append.2 (.inl (List.mem_flatten.2 ⟨r, hr, hl⟩)))), ht⟩⟩
      · exact .inr ⟨x, hx, y, hy, hne, fun z => e1 ((hm _).1 z).2, fun z => e2 ((hm _).1 z).2⟩
/-- the proof's rows, played on a store -/
def fol : List Rw → Sto → Nat → Nat × Nat
  | [], S, n => if [] ∈ S then (0, 0) else (20, n)
  | r :: rs, S, n => if r.1 = true then (if r.2 ∈ S then fol rs (S.erase r.2) (n + 1) else (19, n)) else if fixB S r.2 = true then (18, n) else if 64 ≤ S.length then (12, n) else fol rs (S ++ [r.2]) (n + 1)
theorem Fix.perm {S S' : Sto} {on : Int → Prop} (h : S.Perm S') : Fix S on ↔ Fix S' on := ⟨fun f => f.mono (fun c hc => h.mem_iff.2 hc), fun f => f.mono (fun c hc => h.mem_iff.1 hc)⟩
theorem fol_perm : ∀ (rs : List Rw) {S S' : Sto} (n : Nat), S.Perm S' → fol rs S n = fol rs S' n
  | [], S, S', n, h => by unfold fol; simp only [h.mem_iff]
  | r :: rs, S, S', n, h => by
    unfold fol
    simp only [h.mem_iff, h.length_eq]
    rw [fol_perm rs (n + 1) (h.erase r.2), fol_perm rs (n + 1) (h.append_right [r.2])]
    by_cases hf : Fix S' (deny r.2)
    · rw [if_pos (fixB_iff.2 hf), if_pos (fixB_iff.2 ((Fix.perm h).2 hf))]
    · rw [if_neg (fun x => hf (fixB_iff.1 x)), if_neg (fun x => hf ((Fix.perm h).1 (fixB_iff.1 x)))]
/-- one row -/
def Turn (S : Sto) (r : Rw) (e : Nat) (S' : Sto) : Prop := (e = 0 ∧ ∀ rs n, fol (r :: rs) S n = fol rs S' (n + 1)) ∨ ((e = 18 ∨ e = 12 ∨ e = 19) ∧ ∀ rs n, fol (r :: rs) S n = (e, n))
theorem turn_gone {S : Sto} {r : Rw} (h : r.1 = true) (hm : r.2 ∉ S) (S' : Sto) : Turn S r 19 S' := .inr ⟨by simp, fun rs n => by unfold fol; rw [if_pos h, if_neg hm]⟩
theorem turn_del {S S' : Sto} {r : Rw} (h : r.1 = true) (hp : S.Perm (S' ++ [r.2])) : Turn S r 0 S' := .inl ⟨rfl, fun rs n => by
  have hm : r.2 ∈ S := hp.mem_iff.2 (by simp)
  conv => lhs; unfold fol
  rw [if_pos h, if_pos hm]
  refine fol_perm rs (n + 1) ?_
  have h1 := hp.erase r.2
  have h2 : (S' ++ [r.2]).Perm (r.2 :: S') := List.perm_append_comm
  have h3 := h2.erase r.2
  rw [List.erase_cons_head] at h3
  exact h1.trans h3⟩
theorem turn_step {S : Sto} {r : Rw} (h : ¬ r.1 = true) (hm : Fix S (deny r.2)) (S' : Sto) : Turn S r 18 S' := .inr ⟨by simp, fun rs n => by unfold fol; rw [if_neg h, if_pos (fixB_iff.2 hm)]⟩
theorem turn_full {S : Sto} {r : Rw} (h : ¬ r.1 = true) (hm : ¬ Fix S (deny r.2)) (hl : 64 ≤ S.length) (S' : Sto) : Turn S r 12 S' := .inr ⟨by simp, fun rs n => by unfold fol; rw [if_neg h, if_neg (fun x => hm (fixB_iff.1 x)), if_pos hl]⟩
theorem turn_add {S S' : Sto} {r : Rw} (h : ¬ r.1 = true) (hm : ¬ Fix S (deny r.2)) (hl : ¬ 64 ≤ S.length) (hp : S'.Perm (S ++ [r.2])) : Turn S r 0 S' := .inl ⟨rfl, fun rs n => by
  conv => lhs; unfold fol
  rw [if_neg h, if_neg (fun x => hm (fixB_iff.1 x)), if_neg hl]
  exact fol_perm rs (n + 1) hp.symm⟩
theorem ecnt_pos {S : Sto} : ecnt S = 0 ↔ [] ∉ S := by
  unfold ecnt
  rw [List.length_eq_zero_iff, List.filter_eq_nil_iff]
  constructor
  · intro h hm; exact h [] hm (by rfl)
  · intro h c hc e; rw [List.isEmpty_iff] at e; subst e; exact h hc
/-- the verdict on two texts -/
def chkF (s t : ByteArray) : Nat × Nat × Nat :=
  if (parseF s).1 ≠ 0 then ((parseF s).1, 0, (parseF s).2.1)
  else if fitF (rowsOf (parseF s).2.2) ≠ 0 then (fitF (rowsOf (parseF s).2.2), 0, 0)
  else if (parseF t).1 ≠ 0 then ((parseF t).1, 1, (parseF t).2.1)
  else ((fol (rowsOf (parseF t).2.2) ((rowsOf (parseF s).2.2).map (·.2)) 0).1, if (fol (rowsOf (parseF t).2.2) ((rowsOf (parseF s).2.2).map (·.2)) 0).1 = 0 then 0 else 2, (fol (rowsOf (parseF t).2.2) ((rowsOf (parseF s).2.2).map (·.2)) 0).2)
theorem fol_ok : ∀ (rs : List Rw) (S : Sto) (n : Nat), (fol rs S n).1 = 0 → (fol rs S n).2 = 0
  | [], S, n, h => by unfold fol at h ⊢; split <;> simp_all
  | r :: rs, S, n, h => by
    unfold fol at h ⊢
    repeat' split
    all_goals simp_all
    all_goals exact fol_ok _ _ _ h
theorem fol_err : ∀ (rs : List Rw) (S : Sto) (n : Nat), (fol rs S n).1 = 0 ∨ (fol rs S n).1 = 18 ∨ (fol rs S n).1 = 12 ∨ (fol rs S n).1 = 19 ∨ (fol rs S n).1 = 20
  | [], S, n => by unfold fol; split <;> simp
  | r :: rs, S, n => by
    unfold fol
    repeat' split
    all_goals first | (simp; done) | exact fol_err _ _ _
/-- what is accepted has no satisfying assignment -/
theorem fol_sound : ∀ (rs : List Rw) (S : Sto) (n m : Nat), NrmR rs → (∀ c ∈ S, Nrm c) → sat S m → (fol rs S n).1 ≠ 0
  | [], S, n, m, _, _, hs => by
    unfold fol
    have : [] ∉ S := fun hm => by obtain ⟨l, hl, _⟩ := hs [] hm; cases hl
    rw [if_neg this]; simp
  | r :: rs, S, n, m, hr, hS, hs => by
    have hr2 : NrmR rs := fun x hx => hr x (by simp [hx])
    have hnz : ∀ {c : List Int}, Nrm c → ∀ l ∈ c, l ≠ 0 := fun hc l hl => (hc.1 l hl).1
    unfold fol
    split
    · split
      · exact fol_sound rs _ _ m hr2 (fun c hc => hS c (List.mem_of_mem_erase hc)) (fun c hc => hs c (List.mem_of_mem_erase hc))
      · simp
    · split
      · simp
      · rename_i hf
        split
        · simp
        · refine fol_sound rs _ _ m hr2 (fun c hc => ?_) (fun c hc => ?_)
          · rcases List.mem_append.1 hc with x | x
            · exact hS c x
            · rw [List.mem_singleton.1 x]; exact hr r (by simp)
          · rcases List.mem_append.1 hc with x | x
            · exact hs c x
            · rw [List.mem_singleton.1 x]; exact rup_sound (hnz (hr r (by simp))) (fun c hc => hnz (hS c hc)) hs (fun z => hf (fixB_iff.2 z))
end Go.Chk
