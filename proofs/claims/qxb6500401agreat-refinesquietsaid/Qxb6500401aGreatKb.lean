import Derived.Test.Qxb6500401aGreatKa
set_option linter.unusedVariables false
set_option linter.unusedSimpArgs false
namespace Go.Proofs.Qxb6500401aGreat
open Go.Eng Go.Trl Go.Chk Go.Wat
/-! ### the trail read as a number -/
def kvA : Nat → List It → Nat
  | _, [] => 0
  | i, x :: r => (if x.rea = -1 then 0 else 2 ^ (11 - i)) + kvA (i + 1) r
def kv (L : List It) : Nat := kvA 0 L
theorem kvA_app : ∀ (A C : List It) (i : Nat), kvA i (A ++ C) = kvA i A + kvA (i + A.length) C
  | [], C, i => by simp [kvA]
  | x :: A, C, i => by
    simp only [List.cons_append, kvA, kvA_app A C (i + 1), List.length_cons]
    rw [show i + 1 + A.length = i + (A.length + 1) by omega]; omega
theorem p2 {i : Nat} (h : i ≤ 11) : 2 ^ (12 - i) = 2 ^ (11 - i) + 2 ^ (11 - i) := by
  rw [show 12 - i = (11 - i) + 1 by omega, Nat.pow_succ]; omega
theorem kvA_le : ∀ (L : List It) (i : Nat), i + L.length ≤ 12 → kvA i L + 2 ^ (12 - (i + L.length)) ≤ 2 ^ (12 - i)
  | [], i, h => by simp [kvA]
  | x :: L, i, h => by
    simp only [List.length_cons] at h
    have ih := kvA_le L (i + 1) (by omega)
    have e := p2 (show i ≤ 11 by omega)
    simp only [kvA, List.length_cons]
    rw [show 12 - (i + 1) = 11 - i by omega] at ih
    rw [show i + (L.length + 1) = i + 1 + L.length by omega]
    have h0 := Nat.two_pow_pos (11 - i)
    split <;> omega
theorem kv_le {L : List It} (h : L.length ≤ 12) : kv L ≤ 4095 := by
  have := kvA_le L 0 (by omega)
  have h2 := Nat.two_pow_pos (12 - (0 + L.length))
  unfold kv
  have : (2 : Nat) ^ (12 - 0) = 4096 := by decide
  omega
theorem Lv_split : ∀ {A : List It} {x : It} {R : List It} {b k : Int}, Lv (A ++ x :: R) b k → x.lev = lastL A b ∨ (x.lev = lastL A b + 1 ∧ x.rea = -1)
  | [], x, R, b, k, h => h.1
  | y :: A, x, R, b, k, h => Lv_split (A := A) h.2
theorem kv_jump {s : TS} (hok : Ok s) {j : Nat} (hj : j < s.k) : kv s.L + 1 ≤ kv (backL s.L j) + 2 ^ (11 - (backL s.L (j : Int)).length) := by
  have h12 := TI.len hok
  have hla := cnt_last hok.lv (by omega) (show (j : Int) < (s.k : Int) by omega)
  have hL : s.L = backL s.L j ++ s.L.drop (cnt s.L ((j : Int) + 1)) := by unfold backL; rw [List.take_append_drop]
  have hcn := cnt_le s.L ((j : Int) + 1)
  cases hd : s.L.drop (cnt s.L ((j : Int) + 1)) with
  | nil =>
    exfalso
    rw [hd, List.append_nil] at hL
    unfold backL at hL
    rw [← hL, Lv_last hok.lv] at hla; omega
  | cons x R =>
    rw [hd] at hL
    have hlv := hok.lv
    rw [hL] at hlv
    have hx : x.rea = -1 := by
      rcases Lv_split hlv with q | q
      · have h2 := (cnt_take ((j : Int) + 1) hok.lv).2 x (by rw [hd]; simp)
        unfold backL at q
        rw [hla] at q; omega
      · exact q.2
    have hlen : s.L.length = (backL s.L (j : Int)).length + R.length + 1 := by
      have := congrArg List.length hL
      rw [List.length_append, List.length_cons] at this; omega
    have hk : kv s.L = kv (backL s.L (j : Int)) + kvA ((backL s.L (j : Int)).length + 1) R := by
      have e := congrArg kv hL
      rw [e]; unfold kv
      rw [kvA_app]; simp only [kvA, hx, if_true]; simp
    have h1 := kvA_le R ((backL s.L (j : Int)).length + 1) (by omega)
    have h2 := Nat.two_pow_pos (12 - ((backL s.L (j : Int)).length + 1 + R.length))
    rw [show 12 - ((backL s.L (j : Int)).length + 1) = 11 - (backL s.L (j : Int)).length by omega] at h1
    omega
theorem kv_dec {s : TS} {x : Int} : kv (decS s x).L = kv s.L := by
  unfold decS; split
  · simp only []; unfold kv; rw [kvA_app]; simp [kvA]
  · rfl
def Pend (cl : Nat → Option (List Int)) (s : TS) : Prop := (∃ n c, n < 52 ∧ cl n = some c ∧ ¬ Done (· ∈ lits s.L) c) ∧ ∀ n c, n < 52 → cl n = some c → ¬ ∀ y ∈ c, -y ∈ lits s.L
theorem kv_prop {cl : Nat → Option (List Int)} {s s' : TS} (h : PR cl s s') : kv s.L ≤ kv s'.L ∧ (s'.L ≠ s.L → kv s.L + 2 ^ (11 - s.L.length) ≤ kv s'.L) := by
  have hL : s'.L = s.L ++ s'.L.drop s.L.length := by
    have := List.take_append_drop s.L.length s'.L
    rw [h.ch.2.1] at this; exact this.symm
  have hk : kv s'.L = kv s.L + kvA s.L.length (s'.L.drop s.L.length) := by
    have e := congrArg kv hL
    rw [e]; unfold kv; rw [kvA_app]; simp
  refine ⟨by omega, fun hne => ?_⟩
  cases hd : s'.L.drop s.L.length with
  | nil => rw [hd, List.append_nil] at hL; exact absurd hL hne
  | cons x R =>
    have hx : s'.L[s.L.length]? = some x := by
      have : (s'.L.drop s.L.length)[0]? = some x := by rw [hd]; rfl
      rw [List.getElem?_drop] at this; exact this
    obtain ⟨_, id, c, _, hr, _⟩ := h.ch.2.2 _ x (Nat.le_refl _) hx
    rw [hk, hd]; simp only [kvA]
    rw [if_neg (by omega)]; omega
/-- what Propagate ends with -/
def Ends (cl : Nat → Option (List Int)) (s : TS) : Prop := (∀ j, j < 52 → ∀ cc, cl j = some cc → Done (· ∈ lits s.L) cc) ∨ ∃ id, id < 52 ∧ AF cl id (lits s.L)
theorem pend_prop {cl : Nat → Option (List Int)} {s s' : TS} (h : PR cl s s') (hp : Pend cl s) (he : Ends cl s') : s'.L ≠ s.L := fun e => by
  obtain ⟨⟨n, c, h1, h2, h3⟩, h4⟩ := hp
  rcases he with q | ⟨id, q1, c2, q2, q3⟩
  · exact h3 (e ▸ q n h1 c h2)
  · exact h4 id c2 q1 q2 (e ▸ q3)
/-! ### the log, played -/
def Stp (r : Rw) (S S1 : Sto) : Prop := if r.1 = true then S.Perm (S1 ++ [r.2]) else (S1.Perm (S ++ [r.2]) ∧ ¬ Fix S (deny r.2) ∧ S.length < 64)
def Ply : List Rw → Sto → Sto → Prop
  | [], S, T => S.Perm T
  | r :: rs, S, T => ∃ S1, Stp r S S1 ∧ Ply rs S1 T
theorem Stp.perm_l {r : Rw} {S S' S1 : Sto} (h : Stp r S S1) (p : S.Perm S') : Stp r S' S1 := by
  unfold Stp at h ⊢; split at h
  · rename_i e; rw [if_pos e]; exact p.symm.trans h
  · rename_i e; rw [if_neg e]; exact ⟨h.1.trans (p.append_right _), fun f => h.2.1 ((Fix.perm p).2 f), by rw [← p.length_eq]; exact h.2.2⟩
theorem Stp.perm_r {r : Rw} {S S1 S2 : Sto} (h : Stp r S S1) (p : S1.Perm S2) : Stp r S S2 := by
  unfold Stp at h ⊢; split at h
  · rename_i e; rw [if_pos e]; exact h.trans (p.append_right _)
  · rename_i e; rw [if_neg e]; exact ⟨p.symm.trans h.1, h.2⟩
theorem Ply.perm_l {rs : List Rw} {S S' T : Sto} (h : Ply rs S T) (p : S.Perm S') : Ply rs S' T := by
  cases rs with
  | nil => exact p.symm.trans h
  | cons r rs => obtain ⟨S1, h1, h2⟩ := h; exact ⟨S1, h1.perm_l p, h2⟩
theorem Ply.perm_r : ∀ {rs : List Rw} {S T T' : Sto}, Ply rs S T → T.Perm T' → Ply rs S T'
  | [], S, T, T', h, p => List.Perm.trans h p
  | r :: rs, S, T, T', ⟨S1, h1, h2⟩, p => ⟨S1, h1, h2.perm_r p⟩
theorem Ply.snoc : ∀ {rs : List Rw} {r : Rw} {S T T' : Sto}, Ply rs S T → Stp r T T' → Ply (rs ++ [r]) S T'
  | [], r, S, T, T', h, hs => ⟨T', hs.perm_l (List.Perm.symm h), List.Perm.refl _⟩
  | q :: rs, r, S, T, T', ⟨S1, h1, h2⟩, hs => ⟨S1, h1, h2.snoc hs⟩
theorem Ply.fol : ∀ {rows : List Rw} {S T : Sto}, Ply rows S T → ∀ rs n, Go.Chk.fol (rows ++ rs) S n = Go.Chk.fol rs T (n + rows.length)
  | [], S, T, h, rs, n => fol_perm rs n h
  | r :: rows, S, T, ⟨S1, h1, h2⟩, rs, n => by
    have ih := h2.fol rs (n + 1)
    rw [List.cons_append, List.length_cons, show n + (rows.length + 1) = n + 1 + rows.length by omega, ← ih]
    unfold Stp at h1; split at h1
    · rename_i e
      rcases turn_del e h1 with q | q
      · exact q.2 _ _
      · rcases q.1 with z | z | z <;> cases z
    · rename_i e
      rcases turn_add e h1.2.1 (by omega) h1.1 with q | q
      · exact q.2 _ _
      · rcases q.1 with z | z | z <;> cases z
/-- the learnt clauses alive -/
def aL (cl : Nat → Option (List Int)) : Nat := cI (fun i => (cl i).isSome) 40 52
theorem aL_put {cl : Nat → Option (List Int)} {id : Nat} {c : List Int} (h : cl id = none) (h1 : 40 ≤ id) (h2 : id < 52) : aL (upO cl id (some c)) = aL cl + 1 := by
  have e : (fun i => (upO cl id (some c) i).isSome) = fun q => (fun i => (cl i).isSome) q || decide (q = id) := by
    funext q; unfold upO; by_cases z : q = id
    · simp [z]
    · simp [z]
  have := cI_up (I := fun i => (cl i).isSome) (i := id) (a := 40) (b := 52) (by simp [h])
  rw [if_pos ⟨h1, h2⟩] at this
  unfold aL; rw [e]; exact this
theorem aL_drop {cl : Nat → Option (List Int)} {id : Nat} {c : List Int} (h : cl id = some c) (h1 : 40 ≤ id) (h2 : id < 52) : aL cl = aL (upO cl id none) + 1 := by
  have := aL_put (cl := upO cl id none) (id := id) (c := c) (upO_self _ _ _) h1 h2
  rw [show upO (upO cl id none) id (some c) = cl by
    funext i; unfold upO; split
    · rename_i e; rw [e, h]
    · rfl] at this
  exact this
theorem aL_all {cl : Nat → Option (List Int)} (h : ∀ j, 40 ≤ j → j < 40 + 12 → (cl j).isSome = true) : aL cl = 12 := by
  unfold aL cI
  rw [List.filter_eq_self.2]
  · simp
  · intro i hi; rw [List.mem_range'_1] at hi; exact h i hi.1 (by omega)
theorem aL_le (cl : Nat → Option (List Int)) : aL cl ≤ 12 := cI_le _ _ _
def tri (r : Nat) : Nat := r * (r + 1) / 2
theorem tri_step {r : Nat} (h : r < 4) : tri (r + 1) = tri r + (r + 1) := by
  match r, h with
  | 0, _ => rfl
  | 1, _ => rfl
  | 2, _ => rfl
  | 3, _ => rfl
theorem tri_le {r : Nat} (h : r ≤ 4) : tri r ≤ 10 ∧ (r < 4 → tri r ≤ 6) := by
  match r, h with
  | 0, _ => decide
  | 1, _ => decide
  | 2, _ => decide
  | 3, _ => decide
  | 4, _ => decide
def adds (lg : List Rw) : Nat := (lg.filter fun x => !x.1).length
theorem adds_add (lg : List Rw) (c : List Int) : adds (lg ++ [(false, c)]) = adds lg + 1 := by unfold adds; rw [List.filter_append]; simp
theorem adds_del (lg : List Rw) (c : List Int) : adds (lg ++ [(true, c)]) = adds lg := by unfold adds; rw [List.filter_append]; simp
/-- the loop's own invariant -/
structure SC (cs : Sto) (cl : Nat → Option (List Int)) (s : TS) (r n f : Nat) (lg : List Rw) : Prop where
  ci : CI cl s
  pb : ∀ i, i < 40 → cl i = cs[i]?
  hc : cs.length ≤ 40
  r4 : r ≤ 4
  cf : f = tri r + n
  pl : Ply lg cs (rowsS cl 52)
  nr : NrmR lg
  ad : adds lg = f
  ln : (flatR lg).length + 14 * aL cl ≤ 27 * f
def NP (r n : Nat) (s : TS) : Prop := (r < 4 → n ≤ r) ∧ (r = 4 → n ≤ kv s.L)
def NH (cl : Nat → Option (List Int)) (r n : Nat) (s : TS) : Prop := (r < 4 → n ≤ r) ∧ (r = 4 → n ≤ kv s.L ∨ (Pend cl s ∧ n ≤ kv s.L + 2 ^ (11 - s.L.length)))
theorem NP.nh {cl : Nat → Option (List Int)} {r n : Nat} {s : TS} (h : NP r n s) : NH cl r n s := ⟨h.1, fun e => .inl (h.2 e)⟩
theorem NP.le {cs : Sto} {cl : Nat → Option (List Int)} {s : TS} {r n f : Nat} {lg : List Rw} (h : SC cs cl s r n f lg) (hn : NP r n s) : f ≤ 4105 := by
  have h1 := tri_le h.r4
  have h2 := h.cf
  have h3 := h.r4
  have h4 := kv_le (TI.len h.ci.ok)
  by_cases e : r < 4
  · have := hn.1 e; omega
  · have := hn.2 (by omega); omega
theorem SC.prop {cs : Sto} {cl : Nat → Option (List Int)} {s s' : TS} {r n f : Nat} {lg : List Rw} (h : SC cs cl s r n f lg) (hn : NH cl r n s) (pr : PR cl s s') (hok : Ok s') (he : Ends cl s') : SC cs cl s' r n f lg ∧ NP r n s' := by
  refine ⟨⟨h.ci.prop pr hok, h.pb, h.hc, h.r4, h.cf, h.pl, h.nr, h.ad, h.ln⟩, hn.1, fun e => ?_⟩
  have hk := kv_prop pr
  rcases hn.2 e with q | ⟨q1, q2⟩
  · omega
  · have := hk.2 (pend_prop pr q1 he); omega
theorem SC.dec {cs : Sto} {cl : Nat → Option (List Int)} {s : TS} {r n f : Nat} {lg : List Rw} (h : SC cs cl s r n f lg) (hn : NP r n s) (hd : ∀ j, j < 52 → ∀ cc, cl j = some cc → Done (· ∈ lits s.L) cc) {x : Int} (hx : decE s x = 0) (hok : Ok (decS s x)) : SC cs cl (decS s x) r n f lg ∧ NP r n (decS s x) :=
  ⟨⟨h.ci.dec (fun n c hn hc => hd n hn c hc) hx hok, h.pb, h.hc, h.r4, h.cf, h.pl, h.nr, h.ad, h.ln⟩, hn.1, fun e => by rw [kv_dec]; exact hn.2 e⟩
/-- within a conflict, behind the jump -/
structure FI (cs : Sto) (cl : Nat → Option (List Int)) (s : TS) (g : Ans) (r n f : Nat) (lg : List Rw) (k : Nat) : Prop where
  ci : CI cl s
  dn : ∀ j, j < 52 → ∀ cc, cl j = some cc → Done (· ∈ lits s.L) cc
  lr : Lrn g s
  pb : ∀ i, i < 40 → cl i = cs[i]?
  hc : cs.length ≤ 40
  r4 : r ≤ 4
  cf : f = tri r + (n + 1)
  f6 : f ≤ 4106
  nl : r < 4 → n ≤ r
  nh : r = 4 → n + 1 ≤ kv s.L + 2 ^ (11 - s.L.length)
  pl : Ply lg cs (rowsS cl 52 ++ [g.lits])
  nr : NrmR lg
  ad : adds lg = f
  ln : (flatR lg).length + 14 * aL cl + 14 ≤ 27 * f
  lk : ∀ j, j < k → (cl (40 + j)).isSome = true → remV cl s ((40 + j : Nat) : Int) ≠ 0
theorem FI.start {cs : Sto} {cl : Nat → Option (List Int)} {s : TS} {r n f : Nat} {lg : List Rw} (h : SC cs cl s r n f lg) (hn : NP r n s) {conf : Int} {c : List Int} {j0 : Nat} {g : Ans} (hl : liveC cl conf = some c) (hg : AnK s cl c j0 g) : ∃ j : Nat, g.back = j ∧ j < s.k ∧ FI cs cl (bjS s g.back) g r n (f + 1) (lg ++ [(false, g.lits)]) 0 := by
  obtain ⟨j, hj, hjk, hlr⟩ := lrn_of h.ci hg
  refine ⟨j, hj, hjk, ?_⟩
  have hle := hn.le h
  have hbj := bj_eq (s := s) (j := j) (by omega)
  rw [hj] at hlr ⊢
  have hR : ∀ id c, id < 52 → cl id = some c → c ∈ rowsS cl 52 := fun id c q1 q2 => mem_rows.2 ⟨id, q1, q2⟩
  have hnf := no_fix h.ci.ok h.ci.sn hR hl hg
  refine ⟨h.ci.back (by omega), fun n hn c hc => ?_, hlr, h.pb, h.hc, h.r4, by have := h.cf; omega, by omega, hn.1, fun e => ?_, ?_, ?_, ?_, ?_, fun q hq => by omega⟩
  · rw [hbj]; exact h.ci.lo j hjk n c hn hc
  · have := hn.2 e
    have h2 := kv_jump h.ci.ok hjk
    rw [hbj]; simp only []; omega
  · refine h.pl.snoc ?_
    unfold Stp; rw [if_neg (by simp)]
    exact ⟨List.Perm.refl _, hnf, by have := (rows_len (sl := cl) 52).1; omega⟩
  · intro q hq
    rcases List.mem_append.1 hq with z | z
    · exact h.nr q z
    · simp at z; rw [z]; exact hlr.nr
  · rw [adds_add, h.ad]
  · have := h.ln
    have h2 := hlr.nr.len
    rw [flatR_app, flatR_one, List.length_append, oneR_len]
    simp only [dl]; simp; omega
theorem FI.keep {cs : Sto} {cl : Nat → Option (List Int)} {s : TS} {g : Ans} {r n f : Nat} {lg : List Rw} {k : Nat} (h : FI cs cl s g r n f lg k) (hk : (cl (40 + k)).isSome = true → remV cl s ((40 + k : Nat) : Int) ≠ 0) : FI cs cl s g r n f lg (k + 1) :=
  ⟨h.ci, h.dn, h.lr, h.pb, h.hc, h.r4, h.cf, h.f6, h.nl, h.nh, h.pl, h.nr, h.ad, h.ln, fun j hj => by
    by_cases e : j = k
    · rw [e]; exact hk
    · exact h.lk j (by omega)⟩
theorem FI.rem {cs : Sto} {cl : Nat → Option (List Int)} {s : TS} {g : Ans} {r n f : Nat} {lg : List Rw} {k : Nat} (h : FI cs cl s g r n f lg k) (hk : k < 12) {c : List Int} (hc : cl (40 + k) = some c) (hr : remV cl s ((40 + k : Nat) : Int) = 0) : FI cs (remS cl s ((40 + k : Nat) : Int)) s g r n f (lg ++ [(true, c)]) (k + 1) ∧ aL cl = aL (remS cl s ((40 + k : Nat) : Int)) + 1 := by
  have e : remS cl s ((40 + k : Nat) : Int) = upO cl (40 + k) none := by unfold remS; rw [if_pos hr, Int.toNat_natCast]
  have hci := h.ci.rem ((40 + k : Nat) : Int)
  have hal := aL_drop hc (by omega) (by omega)
  have hnc := h.ci.nl _ (by omega) c hc
  rw [e] at hci ⊢
  have hsub : ∀ {n : Nat} {x : List Int}, upO cl (40 + k) none n = some x → cl n = some x := fun {n x} q => by
    unfold upO at q; split at q
    · cases q
    · exact q
  refine ⟨⟨hci, fun j hj cc q => h.dn j hj cc (hsub q), h.lr, fun i hi => by rw [upO_ne (by omega)]; exact h.pb i hi, h.hc, h.r4, h.cf, h.f6, h.nl, h.nh, ?_, ?_, ?_, ?_, fun j hj hs => ?_⟩, hal⟩
  · refine h.pl.snoc ?_
    unfold Stp; rw [if_pos (by rfl)]
    have hp : (rowsS cl 52).Perm (rowsS (upO cl (40 + k) none) 52 ++ [c]) := rows_drop hc 52 (by omega)
    refine (hp.append_right [g.lits]).trans ?_
    rw [List.append_assoc, List.append_assoc]
    exact List.Perm.append_left _ List.perm_append_comm
  · intro q hq
    rcases List.mem_append.1 hq with z | z
    · exact h.nr q z
    · simp at z; rw [z]; exact hnc
  · rw [adds_del, h.ad]
  · have := h.ln
    have h2 := hnc.len
    rw [flatR_app, flatR_one, List.length_append, oneR_len]
    simp only [dl]; simp; omega
  · by_cases q : j = k
    · subst q; rw [upO_self] at hs; cases hs
    · rw [upO_ne (by omega)] at hs
      have := h.lk j (by omega) hs
      intro hz; apply this
      unfold remV liveC at hz ⊢
      rw [if_pos (by omega), Int.toNat_natCast] at hz ⊢
      rw [upO_ne (by omega)] at hz
      exact hz
theorem FI.room {cs : Sto} {cl : Nat → Option (List Int)} {s : TS} {g : Ans} {r n f : Nat} {lg : List Rw} {k : Nat} (h : FI cs cl s g r n f lg k) (hk : k = 12 ∨ aL cl ≤ 11) : ∃ id, frI cl 40 12 = some id := by
  cases e : frI cl 40 12 with
  | some id => exact ⟨id, rfl⟩
  | none =>
    exfalso
    have ha := frI_none _ _ e
    have h12 := aL_all ha
    rcases hk with rfl | q
    · have ho := h.lr.open12 h.ci.ok
      have hsub : ∀ j : Nat, j < 12 → ((40 + j : Nat) : Int) ∈ s.L.map (fun x => x.rea) := fun j hj => by
        have hs := ha (40 + j) (by omega) (by omega)
        have hr := h.lk j hj hs
        obtain ⟨c, hc⟩ := Option.isSome_iff_exists.1 hs
        unfold remV liveC at hr
        rw [if_pos (by omega), Int.toNat_natCast, hc] at hr
        simp only [] at hr
        have hlk : lockB s (40 + j) c = true := by
          cases z : lockB s (40 + j) c with
          | true => rfl
          | false => rw [z] at hr; simp at hr
        unfold lockB at hlk
        obtain ⟨x, hx, hl⟩ := List.any_eq_true.1 hlk
        unfold lockL at hl
        simp only [Bool.and_eq_true, decide_eq_true_eq] at hl
        have hgx := (h.ci.nl _ (by omega) c hc).1 x hx
        have hm : x ∈ lits s.L := by
          rcases vO3 (s := s) hgx with q | q | q
          · exact q.2
          · omega
          · omega
        obtain ⟨i, hi⟩ := mem_idx.1 hm
        obtain ⟨y, hy, ey⟩ := lits_get hi
        obtain ⟨_, _, _, e4, _⟩ := lt_at h.ci.ok hy
        rw [ey, hl.2] at e4
        rw [List.mem_map]; exact ⟨y, List.mem_of_getElem? hy, e4.symm⟩
      have hnd : ([40, 41, 42, 43, 44, 45, 46, 47, 48, 49, 50, 51] : List Int).Nodup := by decide
      have := hnd.length_le_of_subset (l₂ := s.L.map (fun x => x.rea)) (fun v hv => by
        simp only [List.mem_cons, List.not_mem_nil, or_false] at hv
        have h9 := hsub (v - 40).toNat (by omega)
        rw [show ((40 + (v - 40).toNat : Nat) : Int) = v by omega] at h9
        exact h9)
      simp at this
      omega
    · omega
theorem FI.add {cs : Sto} {cl : Nat → Option (List Int)} {s : TS} {g : Ans} {r n f : Nat} {lg : List Rw} {k : Nat} (h : FI cs cl s g r n f lg k) {id : Nat} (hi : frI cl 40 12 = some id) : SC cs (upO cl id (some g.lits)) s r (n + 1) f lg ∧ (r = 4 → NH (upO cl id (some g.lits)) r (n + 1) s) := by
  obtain ⟨i1, i2, i3, _⟩ := frI_some _ _ hi
  refine ⟨⟨h.ci.add h.lr i3, fun i hi => by rw [upO_ne (by omega)]; exact h.pb i hi, h.hc, h.r4, h.cf, ?_, h.nr, h.ad, ?_⟩, fun e => ⟨fun q => by omega, fun _ => .inr ⟨⟨⟨id, g.lits, by omega, upO_self _ _ _, ?_⟩, fun n c hn hc => ?_⟩, h.nh e⟩⟩⟩
  · exact h.pl.perm_r (rows_put i3 52 (by omega)).symm
  · rw [aL_put i3 i1 (by omega)]; have := h.ln; omega
  · rintro (⟨l, hl, ho⟩ | ⟨x, hx, y, hy, hne, h1, h2⟩)
    · by_cases q : l = g.asr
      · exact h.lr.a1 (q ▸ ho)
      · exact con_lits h.ci.ok l ho (h.lr.fs l hl q)
    · by_cases q : x = g.asr
      · exact h2 (h.lr.fs y hy (fun z => hne (by rw [q, z])))
      · exact h1 (h.lr.fs x hx q)
  · unfold upO at hc; split at hc
    · cases hc
      intro hz; exact h.lr.a2 (hz _ h.lr.am)
    · exact done_not (con_lits h.ci.ok) (h.dn n hn c hc)
theorem SC.back {cs : Sto} {cl : Nat → Option (List Int)} {s : TS} {r n f : Nat} {lg : List Rw} (h : SC cs cl s r (n + 1) f lg) (hr : r < 4) (hn : n = r) : SC cs cl (bjS s 0) (r + 1) 0 f lg ∧ NH cl (r + 1) 0 (bjS s 0) :=
  ⟨⟨h.ci.back (j := 0) (by omega), h.pb, h.hc, by omega, by have := h.cf; rw [tri_step hr]; omega, h.pl, h.nr, h.ad, h.ln⟩, fun _ => by omega, fun _ => .inl (by omega)⟩
theorem SC.stay {cs : Sto} {cl : Nat → Option (List Int)} {s : TS} {r n f : Nat} {lg : List Rw} (h : SC cs cl s r (n + 1) f lg) (h4 : r = 4 → NH cl r (n + 1) s) (hr : r < 4 → n + 1 ≤ r) : NH cl r (n + 1) s := by
  by_cases e : r = 4
  · exact h4 e
  · exact ⟨hr, fun q => absurd q e⟩
/-- the last row -/
theorem SC.last {cs : Sto} {cl : Nat → Option (List Int)} {s : TS} {r n f : Nat} {lg : List Rw} (h : SC cs cl s r n f lg) (hk : ¬ Fix (rowsS cl 52) (deny [])) : Ply (lg ++ [(false, [])]) cs (rowsS cl 52 ++ [[]]) ∧ NrmR (lg ++ [(false, [])]) ∧ fol (lg ++ [(false, [])]) cs 0 = (0, 0) ∧ adds (lg ++ [(false, [])]) = f + 1 := by
  have hp : Ply (lg ++ [(false, [])]) cs (rowsS cl 52 ++ [[]]) := by
    refine h.pl.snoc ?_
    unfold Stp; rw [if_neg (by simp)]
    exact ⟨List.Perm.refl _, hk, by have := (rows_len (sl := cl) 52).1; omega⟩
  refine ⟨hp, ?_, ?_, by rw [adds_add, h.ad]⟩
  · intro q hq
    rcases List.mem_append.1 hq with z | z
    · exact h.nr q z
    · simp at z; rw [z]; exact Nrm.nil
  · have := hp.fol [] 0
    rw [List.append_nil] at this
    rw [this]; unfold fol; rw [if_pos (by simp)]
/-- the trail as an assignment -/
def mskF (s : TS) : Nat → Nat
  | 0 => 0
  | v + 1 => mskF s v ||| (if valO s ((v + 1 : Nat) : Int) = 1 then 2 ^ v else 0)
theorem msk_bit {s : TS} : ∀ (v i : Nat), (mskF s v).testBit i = (decide (i < v) && decide (valO s ((i + 1 : Nat) : Int) = 1))
  | 0, i => by simp [mskF]
  | v + 1, i => by
    unfold mskF
    rw [Nat.testBit_or, msk_bit v i]
    by_cases e : valO s ((v + 1 : Nat) : Int) = 1
    · rw [if_pos e, Nat.testBit_two_pow]
      by_cases q : i = v
      · subst q; have e2 : valO s ((i : Int) + 1) = 1 := by simpa using e
        simp [e2]
      · simp [show ¬ v = i from fun z => q z.symm, show (i < v + 1) ↔ i < v by omega]
    · rw [if_neg e]
      by_cases q : i = v
      · subst q; have e2 : ¬ valO s ((i : Int) + 1) = 1 := by simpa using e
        simp [e2]
      · simp [show (i < v + 1) ↔ i < v by omega]
theorem msk_lt {s : TS} : mskF s 12 < 4096 := Nat.lt_pow_two_of_testBit (n := 12) _ (fun i hi => by rw [msk_bit]; simp; omega)
theorem full_sat {cs : Sto} {cl : Nat → Option (List Int)} {s : TS} {r n f : Nat} {lg : List Rw} (h : SC cs cl s r n f lg) (hd : ∀ j, j < 52 → ∀ cc, cl j = some cc → Done (· ∈ lits s.L) cc) (hf : s.L.length = 12) : sat cs (mskF s 12) := by
  have hall : ∀ x, gd x → x ∈ lits s.L ∨ -x ∈ lits s.L := fun x hx => by
    rcases vO3 (s := s) hx with q | q | q
    · exact .inl q.2
    · exact .inr q.2
    · exfalso
      have hn : New s.L (vr x) := by
        unfold New; rw [loc_none]; intro y hy e
        obtain ⟨i, hi⟩ := List.mem_iff_getElem?.1 hy
        have hm := lits_at hi
        rcases vr_eq e with z | z
        · exact q.2.1 (z ▸ mem_idx.2 ⟨i, hm⟩)
        · exact q.2.2 (z ▸ mem_idx.2 ⟨i, hm⟩)
      have := (TI.app (x := ⟨x, s.k, -1⟩) h.ci.ok hx (by simp only []; omega) hn (.inl rfl) (k' := s.k) rfl).len
      simp at this; omega
  have htr : ∀ x, gd x → x ∈ lits s.L → tru (mskF s 12) x := fun x hx hm => by
    have hcon := con_lits h.ci.ok
    unfold gd at hx
    unfold tru
    by_cases e : 0 < x
    · rw [if_pos e, msk_bit]
      have hxe : ((x.natAbs - 1 + 1 : Nat) : Int) = x := by omega
      rw [hxe]
      rcases vO3 (s := s) (show gd x from hx) with q | q | q
      · rw [q.1]; simp; omega
      · exact absurd q.2 (hcon x hm)
      · exact absurd hm q.2.1
    · rw [if_neg e, msk_bit]
      have hxe : ((x.natAbs - 1 + 1 : Nat) : Int) = -x := by omega
      rw [hxe]
      rcases vO3 (s := s) (show gd (-x) by unfold gd; omega) with q | q | q
      · exact absurd q.2 (hcon x hm)
      · rw [q.1]; simp
      · exact absurd (by simpa using hm) q.2.2
  intro c hc
  obtain ⟨i, hi⟩ := List.mem_iff_getElem?.1 hc
  have hi40 : i < 40 := by
    rcases Nat.lt_or_ge i cs.length with q | q
    · have := h.hc; omega
    · rw [List.getElem?_eq_none q] at hi; cases hi
  have hcl := h.pb i hi40
  rw [hi] at hcl
  have hnc := h.ci.nl i (by omega) c hcl
  rcases hd i (by omega) c hcl with ⟨l, hl, ho⟩ | ⟨x, hx, _, _, _, h1, _⟩
  · exact ⟨l, hl, htr l (hnc.1 l hl) ho⟩
  · rcases hall x (hnc.1 x hx) with q | q
    · exact ⟨x, hx, htr x (hnc.1 x hx) q⟩
    · exact absurd q h1
def dueF (n : Nat) : Nat := if n < 1 then 0 else if n < 3 then 1 else if n < 6 then 2 else if n < 10 then 3 else 4
theorem due_eq {r n f : Nat} (hr : r ≤ 4) (hf : f = tri r + n) (hn : r < 4 → n ≤ r) : dueF f = r := by
  subst hf
  match r, hr with
  | 0, _ => have := hn (by omega); unfold dueF tri; rw [if_pos (by omega)]
  | 1, _ => have := hn (by omega); unfold dueF tri; rw [if_neg (by omega), if_pos (by omega)]
  | 2, _ => have := hn (by omega); unfold dueF tri; rw [if_neg (by omega), if_neg (by omega), if_pos (by omega)]
  | 3, _ => have := hn (by omega); unfold dueF tri; rw [if_neg (by omega), if_neg (by omega), if_neg (by omega), if_pos (by omega)]
  | 4, _ => unfold dueF tri; rw [if_neg (by omega), if_neg (by omega), if_neg (by omega), if_neg (by omega)]
end Go.Proofs.Qxb6500401aGreat
