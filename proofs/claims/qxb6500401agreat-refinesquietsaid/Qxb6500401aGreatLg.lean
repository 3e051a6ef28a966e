import Derived.Test.Qxb6500401aGreatLf
set_option linter.unusedVariables false
set_option linter.unusedSimpArgs false
namespace Go.Chk
open Go.Cnf
def ng (pre : List Int) : List Int := pre.map (fun x => -x)
theorem mem_ng {pre : List Int} {x : Int} : x ∈ ng pre ↔ -x ∈ pre := by
  unfold ng; rw [List.mem_map]
  exact ⟨fun ⟨y, h1, h2⟩ => by rw [← h2]; simpa using h1, fun h => ⟨-x, h, by omega⟩⟩
theorem ng_snoc (pre : List Int) (x : Int) : ng (pre ++ [x]) = ng pre ++ [-x] := by simp [ng]
theorem ng_len (pre : List Int) : (ng pre).length = pre.length := by simp [ng]
theorem deny_ng {pre : List Int} {x : Int} : deny (ng pre) x ↔ x ∈ pre := by unfold deny; rw [mem_ng, Int.neg_neg]
def occ (cs : Sto) (u : Nat) : Prop := ∃ c ∈ cs, (u : Int) ∈ c ∨ -(u : Int) ∈ c
/-- the next variable that occurs -/
def Nx (cs : Sto) (last v : Nat) : Prop := (v = 0 ∧ ∀ u, last < u → u ≤ 12 → ¬ occ cs u) ∨ (last < v ∧ v ≤ 12 ∧ ∀ u, last < u → u < v → ¬ occ cs u)
def LfP (cs : Sto) (pre : List Int) (last : Nat) (rows : List Rw) : Prop := (Nx cs last 0 ∨ ¬ Fix cs (deny (ng pre))) ∧ rows = [(false, ng pre)]
def TreeF (cs : Sto) : Nat → List Int → Nat → List Rw → Prop
  | 0, pre, last, rows => LfP cs pre last rows
  | k + 1, pre, last, rows => LfP cs pre last rows ∨ ∃ (v : Nat) (A C : List Rw), last < v ∧ v ≤ 12 ∧ Nx cs last v ∧ TreeF cs k (pre ++ [(v : Int)]) v A ∧ TreeF cs k (pre ++ [-(v : Int)]) v C ∧ rows = A ++ C ++ [(false, ng pre), (true, ng (pre ++ [(v : Int)])), (true, ng (pre ++ [-(v : Int)]))]
theorem TreeF.up {cs : Sto} : ∀ (k : Nat) {pre : List Int} {last : Nat} {rows : List Rw}, TreeF cs k pre last rows → TreeF cs (k + 1) pre last rows
  | 0, _, _, _, h => .inl h
  | k + 1, _, _, _, h => by
    rcases h with h | ⟨v, A, C, h1, h2, h3, h4, h5, h6⟩
    · exact .inl h
    · exact .inr ⟨v, A, C, h1, h2, h3, TreeF.up k h4, TreeF.up k h5, h6⟩
theorem TreeF.le {cs : Sto} {pre : List Int} {last : Nat} {rows : List Rw} {k : Nat} (h : TreeF cs k pre last rows) : ∀ j, TreeF cs (k + j) pre last rows
  | 0 => h
  | j + 1 => TreeF.up _ (TreeF.le h j)
def Tree (cs : Sto) (pre : List Int) (last : Nat) (rows : List Rw) : Prop := ∃ k, TreeF cs k pre last rows
theorem Tree.leaf {cs : Sto} {pre : List Int} {last : Nat} (h : Nx cs last 0 ∨ ¬ Fix cs (deny (ng pre))) : Tree cs pre last [(false, ng pre)] := ⟨0, h, rfl⟩
theorem Tree.node {cs : Sto} {pre : List Int} {last v : Nat} {A C : List Rw} (h1 : last < v) (h2 : v ≤ 12) (h3 : Nx cs last v) (h4 : Tree cs (pre ++ [(v : Int)]) v A) (h5 : Tree cs (pre ++ [-(v : Int)]) v C) :
      Tree cs pre last (A ++ C ++ [(false, ng pre), (true, ng (pre ++ [(v : Int)])), (true, ng (pre ++ [-(v : Int)]))]) := by
  obtain ⟨a, h4⟩ := h4
  obtain ⟨c, h5⟩ := h5
  refine ⟨a + c + 1, .inr ⟨v, A, C, h1, h2, h3, h4.le c, ?_, rfl⟩⟩
  rw [Nat.add_comm a c]; exact h5.le a
theorem Tree.ind {cs : Sto} {M : List Int → Nat → List Rw → Prop} (hl : ∀ {pre : List Int} {last : Nat}, (Nx cs last 0 ∨ ¬ Fix cs (deny (ng pre))) → M pre last [(false, ng pre)])
    (hn : ∀ {pre : List Int} {last v : Nat} {A C : List Rw}, last < v → v ≤ 12 → Nx cs last v → M (pre ++ [(v : Int)]) v A → M (pre ++ [-(v : Int)]) v C → M pre last (A ++ C ++ [(false, ng pre), (true, ng (pre ++ [(v : Int)])), (true, ng (pre ++ [-(v : Int)]))])) {pre : List Int} {last : Nat} {rows : List Rw} (t : Tree cs pre last rows) : M pre last rows := by
  obtain ⟨k, t⟩ := t
  have key : ∀ (k : Nat) (pre : List Int) (last : Nat) (rows : List Rw), TreeF cs k pre last rows → M pre last rows := by
    intro k
    induction k with
    | zero => intro pre last rows h; rw [h.2]; exact hl h.1
    | succ k ih =>
      intro pre last rows h
      rcases h with h | ⟨v, A, C, h1, h2, h3, h4, h5, h6⟩
      · rw [h.2]; exact hl h.1
      · rw [h6]; exact hn h1 h2 h3 (ih _ _ _ h4) (ih _ _ _ h5)
  exact key k _ _ _ t
structure PreOk (cs : Sto) (pre : List Int) (last : Nat) : Prop where
  n : Nrm pre
  le : ∀ x ∈ pre, x.natAbs ≤ last
  al : ∀ u, 1 ≤ u → u ≤ last → occ cs u → (u : Int) ∈ pre ∨ -(u : Int) ∈ pre
  ln : pre.length ≤ last
theorem PreOk.nil (cs : Sto) : PreOk cs [] 0 := ⟨Nrm.nil, by simp, fun u h1 h2 => by omega, by simp⟩
theorem PreOk.snoc {cs : Sto} {pre : List Int} {last v : Nat} {x : Int} (h : PreOk cs pre last) (h1 : last < v) (h2 : v ≤ 12) (hx : Nx cs last v) (e : x = v ∨ x = -(v : Int)) : PreOk cs (pre ++ [x]) v := by
  have hg : gd x := by unfold gd; omega
  have hxa : x.natAbs = v := by omega
  refine ⟨h.n.snoc hg (fun y hy => by have := h.le y hy; omega), fun y hy => ?_, fun u a1 a2 ho => ?_, by simp; have := h.ln; omega⟩
  · rcases List.mem_append.1 hy with q | q
    · have := h.le y q; omega
    · rw [List.mem_singleton.1 q]; omega
  · rcases Nat.lt_or_ge last u with q | q
    · rcases Nat.lt_or_ge u v with q2 | q2
      · rcases hx with z | z
        · omega
        · exact absurd ho (z.2.2 u q q2)
      · have : u = v := by omega
        subst this
        rcases e with e | e
        · exact .inl (by simp [e])
        · exact .inr (by simp [e])
    · rcases h.al u a1 q ho with z | z
      · exact .inl (List.mem_append.2 (.inl z))
      · exact .inr (List.mem_append.2 (.inl z))
theorem Nrm.ng {c : List Int} (h : Nrm c) : Nrm (ng c) := by
  refine ⟨fun x hx => ?_, ?_⟩
  · have := h.1 _ (mem_ng.1 hx); unfold gd at *; omega
  · unfold Chk.ng; rw [List.pairwise_map]; exact Go.Eng.pw_of (fun {a b} q => by omega) h.2
theorem Tree.nrm {cs : Sto} {pre : List Int} {last : Nat} {rows : List Rw} (t : Tree cs pre last rows) (h : PreOk cs pre last) : NrmR rows := by
  refine Tree.ind (M := fun pre last rows => PreOk cs pre last → NrmR rows) ?_ ?_ t h
  · intro _ _ _ h
    intro r hr; rw [List.mem_singleton.1 hr]; exact h.n.ng
  · intro _ _ _ _ _ h1 h2 h3 ih1 ih2 h
    have p1 := h.snoc h1 h2 h3 (.inl rfl)
    have p2 := h.snoc h1 h2 h3 (.inr rfl)
    intro r hr
    rcases List.mem_append.1 hr with q | q
    · rcases List.mem_append.1 q with q | q
      · exact ih1 p1 r q
      · exact ih2 p2 r q
    · simp only [List.mem_cons, List.not_mem_nil, or_false] at q
      rcases q with q | q | q <;> rw [q]
      · exact h.n.ng
      · exact p1.n.ng
      · exact p2.n.ng
def tb (last : Nat) : Nat := 50 * 2 ^ (12 - last) + 3 * (12 - last)
theorem tb_pos (last : Nat) : 50 ≤ tb last := by unfold tb; have := Nat.two_pow_pos (12 - last); omega
theorem tb_step {last v : Nat} (h1 : last < v) (h2 : v ≤ 12) : 2 * tb v + 3 * last ≤ tb last + 30 := by
  unfold tb
  have e : 2 ^ (12 - v) * 2 ≤ 2 ^ (12 - last) := by rw [← Nat.pow_succ]; exact Nat.pow_le_pow_right (by omega) (by omega)
  omega
theorem flatR_three (a b c : Rw) : (flatR [a, b, c]).length = (oneR a).length + (oneR b).length + (oneR c).length := by
  simp [flatR]; omega
theorem Tree.len {cs : Sto} {pre : List Int} {last : Nat} {rows : List Rw} (t : Tree cs pre last rows) (hl : pre.length ≤ last) (h12 : last ≤ 12) : (flatR rows).length + 37 ≤ tb last := by
  refine Tree.ind (cs := cs) (M := fun pre last rows => pre.length ≤ last → last ≤ 12 → (flatR rows).length + 37 ≤ tb last) ?_ ?_ t hl h12
  · intro p l _ hl h12
    rw [flatR_one, oneR_len]; simp only [dl, ng_len]; have := tb_pos l; simp; omega
  · intro pre last v A C h1 h2 h3 ih1 ih2 hl h12
    have a1 := ih1 (by simp; omega) h2
    have a2 := ih2 (by simp; omega) h2
    have a3 := tb_step h1 h2
    rw [flatR_app, flatR_app, List.length_append, List.length_append, flatR_three, oneR_len, oneR_len, oneR_len]
    simp only [dl, ng_len, List.length_append, List.length_singleton]
    simp
    omega
theorem tru_pM {pre : List Int} (h : Nrm pre) {l : Int} (hl : l ∈ pre) : tru (pM pre) l := by
  have hg := h.1 l hl
  unfold gd at hg
  unfold tru
  split
  · rename_i hp
    exact (pM_bit h.1).2 (by rw [show ((l.natAbs - 1 : Nat) : Int) + 1 = l by omega]; exact hl)
  · rename_i hp
    rw [Bool.eq_false_iff]; intro e
    have := (pM_bit h.1).1 e
    rw [show ((l.natAbs - 1 : Nat) : Int) + 1 = -l by omega] at this
    have := h.inj hl this (by omega)
    omega
/-- all that occurs has a value: some row is false -/
theorem full_hit {cs : Sto} {pre : List Int} {last : Nat} (hp : PreOk cs pre last) (hN : ∀ c ∈ cs, Nrm c) (hx : Nx cs last 0) (hu : ∀ m, m < 4096 → ¬ sat cs m) : ¬ Fix cs (deny (ng pre)) := by
  have hm := hu (pM pre) (pM_lt hp.n.1)
  unfold sat at hm
  simp only [Classical.not_forall, not_exists, not_and] at hm
  obtain ⟨c, hc, hf⟩ := hm
  refine snd_hit (snd_refl cs _) hc (fun x hx2 => ?_)
  rw [deny_ng]
  have hg := (hN c hc).1 x hx2
  unfold gd at hg
  have ho : occ cs x.natAbs := ⟨c, hc, by rcases Int.natAbs_eq x with q | q; exact .inl (q ▸ hx2); exact .inr (by rw [show -(x.natAbs : Int) = x by omega]; exact hx2)⟩
  have hle : x.natAbs ≤ last := by
    rcases Nat.lt_or_ge last x.natAbs with q | q
    · rcases hx with z | z
      · exact absurd ho (z.2 _ q (by omega))
      · omega
    · exact q
  have hnt : x ∉ pre := fun e => hf x hx2 (tru_pM hp.n e)
  rcases hp.al _ (by omega) hle ho with q | q
  · rcases Int.natAbs_eq x with z | z
    · rw [← z] at q; exact absurd q hnt
    · rw [show (x.natAbs : Int) = -x by omega] at q; exact q
  · rcases Int.natAbs_eq x with z | z
    · rw [show -(x.natAbs : Int) = -x by omega] at q; exact q
    · rw [show -(x.natAbs : Int) = x by omega] at q; exact absurd q hnt
theorem half {pre : List Int} {v : Int} {S : Int → Prop} (hc : Con S) (hp : ∀ x ∈ pre, S x) (hd : Done S (ng pre ++ [v])) : S v := by
  have hn : ∀ l ∈ ng pre ++ [v], l = v ∨ S (-l) := fun l hl => by
    rcases List.mem_append.1 hl with q | q
    · exact .inr (hp _ (mem_ng.1 q))
    · exact .inl (List.mem_singleton.1 q)
  rcases hd with ⟨l, hl, hs⟩ | ⟨x, hx, y, hy, hne, h1, h2⟩
  · rcases hn l hl with q | q
    · rw [← q]; exact hs
    · exact absurd q (hc l hs)
  · rcases hn x hx with q | q
    · rcases hn y hy with q2 | q2
      · exact absurd (q.trans q2.symm) hne
      · exact absurd q2 h2
    · exact absurd q h1
theorem join_hit {S : Sto} {pre : List Int} {v : Int} (h1 : ng (pre ++ [v]) ∈ S) (h2 : ng (pre ++ [-v]) ∈ S) : ¬ Fix S (deny (ng pre)) := by
  rintro ⟨T, a1, a2, a3⟩
  have hp : ∀ x ∈ pre, T x := fun x hx => a1 x (deny_ng.2 hx)
  have b1 := a3 _ h1
  have b2 := a3 _ h2
  rw [ng_snoc] at b1 b2
  have c1 := half a2 hp b1
  have c2 := half a2 hp b2
  rw [Int.neg_neg] at c2
  exact a2 v c2 c1
theorem perm_drop {S : Sto} {a : List Int} : ((S ++ [a]).erase a).Perm S := by
  have h2 : (S ++ [a]).Perm (a :: S) := List.perm_append_comm
  have h3 := h2.erase a
  rw [List.erase_cons_head] at h3
  exact h3
theorem fol_add {S : Sto} {c : List Int} {rs : List Rw} {n : Nat} (hf : ¬ Fix S (deny c)) (hl : S.length < 64) : fol ((false, c) :: rs) S n = fol rs (S ++ [c]) (n + 1) := by
  conv => lhs; unfold fol
  rw [if_neg (by simp), if_neg (fun x => hf (fixB_iff.1 x)), if_neg (by omega)]
theorem fol_del {S S' : Sto} {c : List Int} {rs : List Rw} {n : Nat} (hp : S.Perm (S' ++ [c])) : fol ((true, c) :: rs) S n = fol rs S' (n + 1) := by
  conv => lhs; unfold fol
  rw [if_pos rfl, if_pos (hp.mem_iff.2 (by simp))]
  exact fol_perm rs _ ((hp.erase c).trans perm_drop)
/-- the tree is accepted -/
theorem Tree.play {cs : Sto} (hN : ∀ c ∈ cs, Nrm c) (hu : ∀ m, m < 4096 → ¬ sat cs m) {pre : List Int} {last : Nat} {rows : List Rw} (t : Tree cs pre last rows) : PreOk cs pre last → ∀ (S : Sto), (∀ c ∈ cs, c ∈ S) → S.length + (12 - last) + 3 ≤ 64 → ∀ rs n, fol (rows ++ rs) S n = fol rs (S ++ [ng pre]) (n + rows.length) := by
  refine Tree.ind (M := fun pre last rows => PreOk cs pre last → ∀ (S : Sto), (∀ c ∈ cs, c ∈ S) → S.length + (12 - last) + 3 ≤ 64 → ∀ rs n, fol (rows ++ rs) S n = fol rs (S ++ [ng pre]) (n + rows.length)) ?_ ?_ t
  · intro pre last h hp S hS hl rs n
    refine fol_add (fun f => ?_) (by omega)
    have f2 := f.mono hS
    rcases h with h | h
    · exact full_hit hp hN h hu f2
    · exact h f2
  · intro pre last v A C h1 h2 h3 ih1 ih2 hp S hS hl rs n
    have p1 := hp.snoc h1 h2 h3 (.inl rfl)
    have p2 := hp.snoc h1 h2 h3 (.inr rfl)
    rw [List.append_assoc, List.append_assoc, ih1 p1 S hS (by omega), ih2 p2 _ (fun c hc => List.mem_append.2 (.inl (hS c hc))) (by simp; omega)]
    simp only [List.cons_append, List.nil_append]
    rw [fol_add (join_hit (v := (v : Int)) (by simp) (by simp)) (by simp; omega)]
    rw [fol_del (S' := S ++ [ng (pre ++ [-(v : Int)])] ++ [ng pre]), fol_del (S' := S ++ [ng pre])]
    · congr 1; simp; omega
    · rw [List.append_assoc, List.append_assoc]; exact (List.perm_append_comm (l₁ := [ng (pre ++ [-(v : Int)])]) (l₂ := [ng pre])).append_left S
    · rw [List.append_assoc, List.append_assoc, List.append_assoc, List.append_assoc]
      refine List.Perm.append_left S ?_
      exact List.perm_append_comm (l₁ := [ng (pre ++ [(v : Int)])]) (l₂ := [ng (pre ++ [-(v : Int)])] ++ [ng pre])
theorem Tree.ok {cs : Sto} (hN : ∀ c ∈ cs, Nrm c) (hu : ∀ m, m < 4096 → ¬ sat cs m) (hl : cs.length ≤ 40) {rows : List Rw} (t : Tree cs [] 0 rows) : fol rows cs 0 = (0, 0) := by
  have := t.play hN hu (PreOk.nil cs) cs (fun _ h => h) (by omega) [] 0
  rw [List.append_nil] at this
  rw [this]; unfold fol; rw [if_pos (by simp [ng])]
end Go.Chk
