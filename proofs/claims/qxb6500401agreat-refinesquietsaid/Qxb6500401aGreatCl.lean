import Derived.Test.Qxb6500401aGreatDb
set_option linter.unusedVariables false
set_option linter.unusedSimpArgs false
namespace Go.Proofs.Qxb6500401aGreat.ChkW
open Go.Eng Go.Cnf Go.Chk

theorem len_step (n : Nat) (o : List Rw × Rw) (x : Int) (h : o.1.length + o.2.2.length ≤ n) : (stepR o x).1.length + (stepR o x).2.2.length ≤ n + 1 := by
  unfold stepR; repeat' split
  all_goals simp
  all_goals omega
theorem rowsAt_take {xs : List Int} {i : Nat} (h : i < xs.length) : rowsAt (xs.take (i + 1)) = stepR (rowsAt (xs.take i)) (xs.getD i 0) := by
  unfold rowsAt; rw [getD_snoc _ _ h, List.foldl_append]; rfl
/-- the value of a literal -/
def ValR (on : List Int) (x v : Int) : Prop := (v = 1 ∧ x ∈ on) ∨ (v = -1 ∧ -x ∈ on) ∨ (v = 0 ∧ x ∉ on ∧ -x ∉ on)
theorem take_none {on : List Int} {x : Int} {i : Nat} (hi : i < on.length) (h : ∀ y ∈ on.take i, y ≠ x ∧ y ≠ -x) (h1 : ¬ on.getD i 0 = x) (h2 : ¬ on.getD i 0 = -x) : ∀ y ∈ on.take (i + 1), y ≠ x ∧ y ≠ -x := fun y hy => by
  rcases (mem_take_snoc hi).1 hy with q | q
  · exact h y q
  · rw [q]; exact ⟨h1, h2⟩
theorem val_none {on : List Int} {x : Int} {i : Nat} (hi : i = on.length) (h : ∀ y ∈ on.take i, y ≠ x ∧ y ≠ -x) : ValR on x 0 := by
  rw [hi, List.take_length] at h
  exact .inr (.inr ⟨rfl, fun e => (h _ e).1 rfl, fun e => (h _ e).2 rfl⟩)
/-- the state of a clause -/
def StR (c on : List Int) (s u : Int) : Prop := (s = 1 ∧ ∃ y ∈ c, y ∈ on) ∨ (s = -1 ∧ ∀ y ∈ c, -y ∈ on) ∨ (s = 0 ∧ u ∈ c ∧ u ∉ on ∧ -u ∉ on ∧ ∀ y ∈ c, y ≠ u → -y ∈ on) ∨ (s = 2 ∧ ∃ x ∈ c, ∃ y ∈ c, x ≠ y ∧ -x ∉ on ∧ -y ∉ on)
/-- the first k literals -/
def StP (c on : List Int) (k n : Nat) (u : Int) : Prop := (n = 0 ∧ ∀ y ∈ c.take k, -y ∈ on) ∨ (n = 1 ∧ u ∈ c.take k ∧ u ∉ on ∧ -u ∉ on ∧ ∀ y ∈ c.take k, y ≠ u → -y ∈ on) ∨ (2 ≤ n ∧ ∃ x ∈ c.take k, ∃ y ∈ c.take k, x ≠ y ∧ -x ∉ on ∧ -y ∉ on)
theorem StP.down {c on : List Int} {k n : Nat} {u : Int} (h : StP c on k n u) (hk : k < c.length) (hf : -(c.getD k 0) ∈ on) : StP c on (k + 1) n u := by
  have hm : ∀ y, y ∈ c.take (k + 1) ↔ y ∈ c.take k ∨ y = c.getD k 0 := fun y => mem_take_snoc hk
  rcases h with ⟨h1, h2⟩ | ⟨h1, h2, h3, h4, h5⟩ | ⟨h1, x, hx, y, hy, h2⟩
  · exact .inl ⟨h1, fun y hy => by rcases (hm y).1 hy with q | q; exact h2 y q; rw [q]; exact hf⟩
  · exact .inr (.inl ⟨h1, (hm u).2 (.inl h2), h3, h4, fun y hy e => by rcases (hm y).1 hy with q | q; exact h5 y q e; rw [q]; exact hf⟩)
  · exact .inr (.inr ⟨h1, x, (hm x).2 (.inl hx), y, (hm y).2 (.inl hy), h2⟩)
theorem StP.open {c on : List Int} {k n : Nat} {u : Int} (h : StP c on k n u) (hn : c.Nodup) (hk : k < c.length) (h1 : c.getD k 0 ∉ on) (h2 : -(c.getD k 0) ∉ on) : StP c on (k + 1) (n + 1) (c.getD k 0) := by
  have hm : ∀ y, y ∈ c.take (k + 1) ↔ y ∈ c.take k ∨ y = c.getD k 0 := fun y => mem_take_snoc hk
  have hne : ∀ y ∈ c.take k, y ≠ c.getD k 0 := fun y hy e => by
    obtain ⟨i, hi, hie⟩ := List.getElem_of_mem hy
    rw [List.length_take] at hi
    rw [List.getElem_take] at hie
    have he : c.getD k 0 = c[k] := by simp [hk]
    rw [e, he] at hie
    have := (List.getElem_inj hn).1 hie
    omega
  rcases h with ⟨g1, g2⟩ | ⟨g1, g2, g3, g4, g5⟩ | ⟨g1, x, hx, y, hy, g2⟩
  · exact .inr (.inl ⟨by omega, (hm _).2 (.inr rfl), h1, h2, fun y hy e => by rcases (hm y).1 hy with q | q; exact g2 y q; exact absurd q e⟩)
  · exact .inr (.inr ⟨by omega, u, (hm u).2 (.inl g2), _, (hm _).2 (.inr rfl), hne u g2, g4, h2⟩)
  · exact .inr (.inr ⟨by omega, x, (hm x).2 (.inl hx), y, (hm y).2 (.inl hy), g2⟩)
theorem StP.fin {c on : List Int} {n : Nat} {u : Int} (h : StP c on c.length n u) : StR c on (if n = 0 then -1 else if n = 1 then 0 else 2) (if n = 1 then u else 0) := by
  unfold StP at h
  rw [List.take_length] at h
  rcases h with ⟨h1, h2⟩ | ⟨h1, h2⟩ | ⟨h1, h2⟩
  · subst h1; exact .inr (.inl ⟨rfl, h2⟩)
  · subst h1; exact .inr (.inr (.inl ⟨rfl, h2⟩))
  · rw [if_neg (by omega), if_neg (by omega)]; exact .inr (.inr (.inr ⟨rfl, h2⟩))
/-- where a closure stands -/
structure Clo1 (cs : List (List Int)) (on out : List Int) (r : Nat) (g : Bool) (i : Nat) : Prop where
  gd : ∀ x ∈ out, Chk.gd x
  con : Con (· ∈ out)
  snd : Snd cs (· ∈ on) (· ∈ out)
  onn : ∀ x ∈ on, x ∈ out
  len : out.length ≤ on.length + vcnt (pM out) (nM out)
  up : g = true → r + 1 ≤ vcnt (pM out) (nM out)
  no : g = false → r ≤ vcnt (pM out) (nM out) ∧ ∀ c ∈ cs.take i, Done (· ∈ out) c
theorem mem_rtake {cs : List (List Int)} {i : Nat} {c : List Int} (h : i < cs.length) : c ∈ cs.take (i + 1) ↔ c ∈ cs.take i ∨ c = cs.getD i [] := by
  rw [List.take_add_one, List.mem_append, List.getD_eq_getElem?_getD, List.getElem?_eq_getElem h]; simp only [Option.toList_some, List.mem_singleton, Option.getD_some]
theorem getD_mem {cs : List (List Int)} {i : Nat} (h : i < cs.length) : cs.getD i [] ∈ cs := by
  rw [List.getD_eq_getElem?_getD, List.getElem?_eq_getElem h]; exact List.getElem_mem h
theorem Clo1.skip {cs : List (List Int)} {on out : List Int} {r : Nat} {g : Bool} {i : Nat} (h : Clo1 cs on out r g i) (hi : i < cs.length) (hd : Done (· ∈ out) (cs.getD i [])) : Clo1 cs on out r g (i + 1) :=
  ⟨h.gd, h.con, h.snd, h.onn, h.len, h.up, fun e => ⟨(h.no e).1, fun c hc => by rcases (mem_rtake hi).1 hc with q | q; exact (h.no e).2 c q; rw [q]; exact hd⟩⟩
theorem Clo1.unit {cs : List (List Int)} {on out : List Int} {r : Nat} {g : Bool} {i : Nat} {u : Int} (h : Clo1 cs on out r g i) (hi : i < cs.length) (hn : Nrm (cs.getD i [])) (hu : u ∈ cs.getD i []) (h1 : u ∉ out) (h2 : -u ∉ out) (h3 : ∀ y ∈ cs.getD i [], y ≠ u → -y ∈ out) : Clo1 cs on (out ++ [u]) r true (i + 1) := by
  have hg : Chk.gd u := hn.1 u hu
  have hgd : ∀ x ∈ out ++ [u], Chk.gd x := fun x hx => by rcases List.mem_append.1 hx with q | q; exact h.gd x q; rw [List.mem_singleton.1 q]; exact hg
  have hv : vcnt (pM out) (nM out) < vcnt (pM (out ++ [u])) (nM (out ++ [u])) := by
    have hg2 := hg
    unfold Chk.gd at hg2
    refine vcnt_up (v := u.natAbs - 1) (fun i hb => ?_) (fun i hb => ?_) (by omega) ?_ ?_
    · rw [pM_snoc]; split
      · rw [Nat.testBit_or, hb]; rfl
      · exact hb
    · rw [nM_snoc]; split
      · exact hb
      · rw [Nat.testBit_or, hb]; rfl
    · rw [Nat.testBit_or, Bool.or_eq_false_iff]
      have ep : ((u.natAbs - 1 : Nat) : Int) + 1 = u.natAbs := by omega
      constructor
      · rw [Bool.eq_false_iff]; intro e; have := (pM_bit h.gd).1 e; rw [ep] at this
        rcases Int.natAbs_eq u with q | q
        · rw [← q] at this; exact h1 this
        · rw [show (u.natAbs : Int) = -u by omega] at this; exact h2 this
      · rw [Bool.eq_false_iff]; intro e; have := (nM_bit h.gd).1 e; rw [ep] at this
        rcases Int.natAbs_eq u with q | q
        · rw [show -(u.natAbs : Int) = -u by omega] at this; exact h2 this
        · rw [show -(u.natAbs : Int) = u by omega] at this; exact h1 this
    · rw [Nat.testBit_or, pM_snoc, nM_snoc]
      split <;> simp [Nat.testBit_or, Nat.testBit_two_pow]
  refine ⟨hgd, ?_, ?_, fun x hx => List.mem_append.2 (.inl (h.onn x hx)), ?_, fun _ => ?_, fun e => by cases e⟩
  · intro x hx hx2
    have hg0 := hg.1
    rcases List.mem_append.1 hx with q | q <;> rcases List.mem_append.1 hx2 with q2 | q2
    · exact h.con x q q2
    · have := List.mem_singleton.1 q2; rw [show x = -u by omega] at q; exact h2 q
    · have := List.mem_singleton.1 q; rw [this] at q2; exact h2 q2
    · have := List.mem_singleton.1 q; have := List.mem_singleton.1 q2; omega
  · have := snd_unit h.snd (getD_mem hi) hu h3
    intro S a1 a2 a3 x hx
    refine this S a1 a2 a3 x ?_
    rcases List.mem_append.1 hx with q | q
    · exact .inl q
    · exact .inr (List.mem_singleton.1 q)
  · rw [List.length_append]; simp only [List.length_singleton]; have := h.len; omega
  · cases g
    · have := (h.no rfl).1; omega
    · have := h.up rfl; omega
theorem Clo1.next {cs : List (List Int)} {on out : List Int} {r : Nat} {i : Nat} (h : Clo1 cs on out r true i) : Clo1 cs on out (r + 1) false 0 :=
  ⟨h.gd, h.con, h.snd, h.onn, h.len, fun e => (by cases e), fun _ => ⟨h.up rfl, by simp⟩⟩
theorem Clo1.fix {cs : List (List Int)} {on out : List Int} {r : Nat} {i : Nat} (h : Clo1 cs on out r false i) (hi : i = cs.length) : Fix cs (· ∈ on) := by
  have h2 := (h.no rfl).2
  rw [hi, List.take_length] at h2
  exact ⟨(· ∈ out), h.onn, h.con, h2⟩
theorem Clo1.fresh {cs : List (List Int)} {on : List Int} {r : Nat} (hg : ∀ x ∈ on, Chk.gd x) (hc : Con (· ∈ on)) (hr : r = 0) : Clo1 cs on on r false 0 :=
  ⟨hg, hc, snd_refl _ _, fun _ h => h, by omega, fun e => (by cases e), fun _ => ⟨by omega, by simp⟩⟩
def prE (s : ByteArray) : Nat := if (parseF s).1 ≠ 0 then (parseF s).1 else fitF (rowsOf (parseF s).2.2)
def prP (s : ByteArray) : Nat := if (parseF s).1 ≠ 0 then (parseF s).2.1 else 0

theorem rq2 {h : Heap} {k : Nat} {x y : Value} {t : TypeId} (hB : B h k #[x, y] t) : cellH h ⟨k, 0, none⟩ = some x ∧ cellH h ⟨k, 1, none⟩ = some y ∧ ∀ j, j < 2 → okPut h ⟨k, j, none⟩ = true :=
  ⟨hB.cell 0, hB.cell 1, fun j hj => hB.ok (by simpa using hj)⟩
theorem own0 {lo : Nat} {h : Heap} {a : Option Addr} {k cap : Nat} {xs : List Value} {e : TypeId} {size : Nat} (ho : OwnR lo h a k cap xs e size) : OwnR 0 h a k cap xs e size := OwnR_up (Nat.zero_le _) ho
set_option maxHeartbeats 1600000 in
theorem rows_spec (h : Heap) (a : Option Addr) (cap : Nat) (xs : List Int) (ho : IL h a cap xs) (hl : xs.length ≤ 1000000000) :
    FC Tryz.prog 77 (#[.slice a xs.length cap] : Array Value) h fun rv h' => ∃ oa oc, rv = .slice oa (rowsOf xs).length oc ∧ RV h.size h'.size h' oa oc (rowsOf xs) ∧ Ext (fun _ => False) h h' := by
  refine FC_of [(0, .slice a xs.length cap)] Tryz.func77 rfl Tryz.ntmps77 (by simp) rfl (fun R hR => ?_)
  refine V_sr T.mix (by kernel_rfl) (fun K1 hK1 => ?_)
  refine S_as rfl ?_
  refine S_nil (hK1 _ _ (V_keep [0] (by simp only [proj, lk, reduceIte, Nat.reduceEqDiff]; rfl) ?_)); clear hK1
  refine V_sr T.mix (by kernel_rfl) (fun K2 hK2 => ?_)
  refine S_as rfl ?_
  refine S_nil (hK2 _ _ (V_keep [0, 3] (by simp only [proj, lk, reduceIte, Nat.reduceEqDiff]; rfl) ?_)); clear hK2
  refine V_sr T.mix (by kernel_rfl) (fun K3 hK3 => ?_)
  refine S_bld rfl (T.bld135) ?_
  refine S_allocA T.z135 ?_
  generalize hh : Array.push h _ = hA
  have hqA : B hA h.size #[.bool false, .slice none 0 0] 135 := by rw [← hh]; exact B.new _ _ _
  have hEhA : Ext (fun _ => False) h hA := by rw [← hh]; exact Ext.push _ _ _
  have hshA : hA.size = h.size + 1 := by rw [← hh]; simp
  clear hh
  try clear q0 q1 hqok
  obtain ⟨q0, q1, hqok⟩ := rq2 (hqA)
  refine S_stl T.sz135 rfl rfl rfl rfl (fun j hj => by simp (disch := omega) only [hqok]) ?_
  generalize hh : putsH _ _ _ _ = h1
  have hq1 : B h1 (h.size) #[.bool false, .slice none 0 0] 135 := by rw [← hh]; exact B.puts_all (hqA) (cs' := #[.bool false, .slice none 0 0]) rfl
  have hEh1 : Ext (fun k => k = h.size) hA h1 := by rw [← hh]; exact Ext.puts (S := fun k => k = h.size) rfl _ _ _
  clear hh
  have hE1 : Ext (fun _ => False) h h1 := hEhA.step hEh1 (fun z hz e => by omega)
  have hl1 := hEh1.1
  refine S_nil (hK3 _ _ (V_keep [0, 3, 4] (by simp only [proj, lk, reduceIte, Nat.reduceEqDiff]; rfl) ?_)); clear hK3
  refine V_seq (fun K4 hK4 => ?_)
  refine V_sr T.mix (by kernel_rfl) (fun K5 hK5 => ?_)
  refine S_as rfl ?_
  refine S_nil (hK5 _ _ (V_keep [0, 3, 4, 5] (by simp only [proj, lk, reduceIte, Nat.reduceEqDiff]; rfl) ?_)); clear hK5
  refine V_block ?_
  refine V_loop (fun m l h' => ∃ (i : Nat) (hk : Heap) (out : List Rw) (cu : Rw) (oa : Option Addr) (oc : Nat) (ca : Option Addr) (cc : Nat) (hi_ : Nat), (i ≤ xs.length) ∧ (B hk h.size #[.bool cu.1, .slice ca cu.2.length cc] 135) ∧ ((rowsAt (xs.take i)) = (out, cu)) ∧ (OwnR (h.size + 1) hk ca cu.2.length cc (ints cu.2) 3 1) ∧ (RV (h.size + 1) hi_ hk oa oc out) ∧ (∀ z, blkA ca = some z → hi_ ≤ z) ∧ (Ext (fun _ => False) h hk) ∧ (out.length + cu.2.length ≤ i) ∧ m = xs.length - i ∧ l = [(0, .slice a xs.length cap), (3, .slice oa out.length oc), (4, .pointer (some ⟨h.size, 0, none⟩)), (5, .int .i64 (i : Int))] ∧ hk = h') _ ⟨0, h1, [], (false, []), none, 0, none, 0, h1.size, by omega, hq1, rfl, OwnR.nil _ _ _ _, RV.nil _ _ _ (by omega), by simp [blkA], hE1, by simp, rfl, rfl, rfl⟩ ?_
  rintro m l h' ⟨i, hk, out, cu, oa, oc, ca, cc, hi_, hi, hcu, hst, hci, hov, hcb, hEk, hln, rfl, rfl, rfl⟩ K6 hK6
  try clear hI
  have hI := ho.ext hEk (fun _ _ f => f)
  have hkl := hcu.lt
  have hhi := hov.le
  try clear q0 q1 hqok
  obtain ⟨q0, q1, hqok⟩ := rq2 (hcu)
  refine V_seq (fun K7 hK7 => ?_)
  refine V_sr T.mix (by kernel_rfl) (fun K8 hK8 => ?_)
  refine S_mv rfl ?_
  refine S_mv rfl ?_
  refine S_lenl T.el49 rfl ?_
  refine S_bin rfl rfl rfl ?_
  refine S_nil (hK8 _ _ (V_keep [0, 3, 4, 5, 10] (by simp only [proj, lk, reduceIte, Nat.reduceEqDiff]; rfl) ?_)); clear hK8
  refine V_condp rfl (fun c15 => ?_) (fun c15 => ?_)
  · skip
    obtain ⟨bb, rfl, _, _, _⟩ := ho.get (by omega)
    refine V_skipk [0, 3, 4, 5] (by simp only [proj, lk, reduceIte, Nat.reduceEqDiff]; rfl) ?_
    refine hK7 _ _ ?_; clear hK7
    refine V_seq (fun K9 hK9 => ?_)
    refine V_block ?_
    refine V_sr T.mix (by kernel_rfl) (fun K10 hK10 => ?_)
    refine S_mv rfl ?_
    refine S_mv rfl ?_
    first | refine S_ixn T.el49 rfl rfl (by omega) ?_ | refine S_ix1 T.el49 rfl rfl (by omega) (by omega) ?_ | refine S_ix T.el49 rfl rfl (by omega) (by omega) ?_
    refine S_ldK T.ag3 rfl (fun K' hK' => ?_)
    simp (disch := omega) only [hI.at, q0, q1, oP_some, Nat.add_zero]
    refine hK' _ ?_; clear hK' K'
    refine S_bin rfl rfl rfl ?_
    refine S_nil (hK10 _ _ (V_keep [0, 3, 4, 5, 17] (by simp only [proj, lk, reduceIte, Nat.reduceEqDiff]; rfl) ?_)); clear hK10
    refine V_condp rfl (fun c16 => ?_) (fun c16 => ?_)
    · skip
      refine V_reg T.mix (by kernel_rfl) ?_
      first | refine S_fa0 T.f135_0 rfl ?_ | refine S_fa T.f135_0 rfl ?_
      refine S_st T.sz4 rfl rfl rfl rfl (by simp (disch := omega) only [hqok]) ?_
      generalize hh : putH _ _ _ = h2
      have hq2 : B h2 (h.size) #[.bool true, .slice ca cu.2.length cc] 135 := by rw [← hh]; exact (hcu).put 0 _
      have hEh2 : Ext (fun k => k = h.size) hk h2 := by rw [← hh]; exact Ext.put _ _ rfl
      clear hh
      refine S_nilk [0, 3, 4, 5] (by simp only [proj, lk, reduceIte, Nat.reduceEqDiff]; rfl) ?_
      refine hK9 _ _ ?_; clear hK9
      refine V_reg T.mix (by kernel_rfl) ?_
      refine S_mv rfl ?_
      first | refine S_add rfl rfl (by omega) (by omega) ?_ | refine S_bin rfl rfl rfl ?_
      refine S_as rfl ?_
      refine S_nilk [0, 3, 4, 5] (by simp only [proj, lk, reduceIte, Nat.reduceEqDiff]; rfl) ?_
      exact hK6 _ _ ⟨_, by omega, i + 1, h2, out, (true, cu.2), oa, oc, ca, cc, hi_, by omega, hq2, by rw [rowsAt_take (show i < xs.length by omega), hst]; unfold stepR; rw [if_pos c16], hci.ext hEh2 (fun z e x => by have h9 := OwnR.blk2 hci (by rw [e]; rfl : blkA ca = some z); omega), hov.ext hEh2 (fun z h1 h2 x => by omega), hcb, hEk.step hEh2 (fun z hz e => by omega), by simp; omega, rfl, rfl, rfl⟩
    · skip
      refine V_sr T.mix (by kernel_rfl) (fun K11 hK11 => ?_)
      refine S_mv rfl ?_
      refine S_mv rfl ?_
      first | refine S_ixn T.el49 rfl rfl (by omega) ?_ | refine S_ix1 T.el49 rfl rfl (by omega) (by omega) ?_ | refine S_ix T.el49 rfl rfl (by omega) (by omega) ?_
      refine S_ldK T.ag3 rfl (fun K' hK' => ?_)
      simp (disch := omega) only [hI.at, q0, q1, oP_some, Nat.add_zero]
      refine hK' _ ?_; clear hK' K'
      refine S_bin rfl rfl rfl ?_
      refine S_nil (hK11 _ _ (V_keep [0, 3, 4, 5, 23] (by simp only [proj, lk, reduceIte, Nat.reduceEqDiff]; rfl) ?_)); clear hK11
      refine V_condp rfl (fun c18 => ?_) (fun c18 => ?_)
      · skip
        refine V_sr T.mix (by kernel_rfl) (fun K12 hK12 => ?_)
        refine S_mv rfl ?_
        refine S_ldnK T.ag135 rfl (fun K' hK' => ?_)
        simp (disch := omega) only [q0, q1, oPs_cons, oPs_nil, oP_some, Nat.reduceAdd, Nat.add_zero]
        refine hK' _ ?_; clear hK' K'
        refine S_bs T.ei132 rfl (by decide) (by decide) (T.bs132_1_0 _ _ _ _) ?_
        obtain ⟨vs, hvs⟩ := hov.own
        refine S_appx (lo := h.size + 1) T.ei132 T.ni132 T.us132 rfl rfl rfl (OwnR.ext hvs (Ext.push (fun _ => False) _ _) (fun _ _ f => f)) (by simp; omega) (cellsH_new _ _ _) rfl (by omega) (by decide) (by decide) rfl (fun a4 c4 h4 ho4 hE4x hb4x => ?_)
        have hE4 : Ext (fun z => blkA oa = some z) hk h4 := (Ext.push _ _ _).trans hE4x
        have hb4 := new_blk (h := hk) hb4x (by simp)
        have hq4 := hcu.ext hE4 (fun e => by have h9 := OwnR.blk2 hvs e; omega)
        have hl4 := hq4.lt
        try clear q0 q1 hqok
        obtain ⟨q0, q1, hqok⟩ := rq2 (hq4)
        refine S_as rfl ?_
        refine S_nil (hK12 _ _ (V_keep [0, 3, 4, 5] (by simp only [proj, lk, reduceIte, Nat.reduceEqDiff]; rfl) ?_)); clear hK12
        refine V_reg T.mix (by kernel_rfl) ?_
        refine S_bld rfl (T.bld135) ?_
        refine S_stl T.sz135 rfl rfl rfl rfl (fun j hj => by simp (disch := omega) only [hqok]) ?_
        generalize hh : putsH _ _ _ _ = h5
        have hq5 : B h5 (h.size) #[.bool false, .slice none 0 0] 135 := by rw [← hh]; exact B.puts_all (hcu.ext hE4 (fun e => by have h9 := OwnR.blk2 hvs e; omega)) (cs' := #[.bool false, .slice none 0 0]) rfl
        have hEh5 : Ext (fun k => k = h.size) h4 h5 := by rw [← hh]; exact Ext.puts (S := fun k => k = h.size) rfl _ _ _
        clear hh
        refine S_nilk [0, 3, 4, 5] (by simp only [proj, lk, reduceIte, Nat.reduceEqDiff]; rfl) ?_
        have hrv5 : RV (h.size + 1) h4.size h5 a4 c4 (out ++ [cu]) := (hov.snoc hvs ho4 hE4 hb4 (own0 hci) (fun z e => ⟨(OwnR.blk2 hci e).1, fun x => by have h9 := hcb z e; obtain ⟨_, _, h8, _⟩ := hov; have h7 := h8 z x; omega⟩)).ext hEh5 (fun z h1 h2 x => by omega)
        refine hK9 _ _ ?_; clear hK9
        refine V_reg T.mix (by kernel_rfl) ?_
        refine S_mv rfl ?_
        first | refine S_add rfl rfl (by omega) (by omega) ?_ | refine S_bin rfl rfl rfl ?_
        refine S_as rfl ?_
        refine S_nilk [0, 3, 4, 5] (by simp only [proj, lk, reduceIte, Nat.reduceEqDiff]; rfl) ?_
        exact hK6 _ _ ⟨_, by omega, i + 1, h5, out ++ [cu], (false, []), a4, c4, none, 0, h4.size, by omega, hq5, (by rw [rowsAt_take (show i < xs.length by omega), hst]; unfold stepR; rw [if_neg c16, if_pos c18]), OwnR.nil _ _ _ _, hrv5, by simp [blkA], (hEk.step hE4 (fun z hz e => by have h9 := OwnR.blk2 hvs e; omega)).step hEh5 (fun z hz e => by omega), (by simp; omega), rfl, by simp, rfl⟩
      · skip
        refine V_reg T.mix (by kernel_rfl) ?_
        first | refine S_fa0 T.f135_1 rfl ?_ | refine S_fa T.f135_1 rfl ?_
        refine S_ldK T.ag49 rfl (fun K' hK' => ?_)
        simp (disch := omega) only [hI.at, q0, q1, oP_some, Nat.add_zero]
        refine hK' _ ?_; clear hK' K'
        refine S_mv rfl ?_
        refine S_mv rfl ?_
        first | refine S_ixn T.el49 rfl rfl (by omega) ?_ | refine S_ix1 T.el49 rfl rfl (by omega) (by omega) ?_ | refine S_ix T.el49 rfl rfl (by omega) (by omega) ?_
        refine S_ldK T.ag3 rfl (fun K' hK' => ?_)
        simp (disch := omega) only [hI.at, q0, q1, oP_some, Nat.add_zero]
        refine hK' _ ?_; clear hK' K'
        refine S_bs T.ei49 rfl (by decide) (by decide) (T.bs49_1_0 _) ?_
        refine S_appx (lo := h.size + 1) T.ei49 T.ni49 T.us49 rfl rfl rfl (OwnR.ext hci (Ext.push (fun _ => False) _ _) (fun _ _ f => f)) (by simp; omega) (cellsH_new _ _ _) rfl (by omega) (by decide) (by decide) rfl (fun a4 c4 h4 ho4 hE4x hb4x => ?_)
        have hE4 : Ext (fun z => blkA ca = some z) hk h4 := (Ext.push _ _ _).trans hE4x
        have hb4 := new_blk (h := hk) hb4x (by simp)
        have hq4 := hcu.ext hE4 (fun e => by have h9 := OwnR.blk2 hci e; omega)
        try clear q0 q1 hqok
        obtain ⟨q0, q1, hqok⟩ := rq2 (hq4)
        first | refine S_fa0 T.f135_1 rfl ?_ | refine S_fa T.f135_1 rfl ?_
        refine S_st T.sz49 rfl rfl rfl rfl (by simp (disch := omega) only [hqok]) ?_
        generalize hh : putH _ _ _ = h5
        have hq5 : B h5 (h.size) #[.bool cu.1, .slice a4 ((cu.2 ++ [xs.getD i 0]).length) c4] 135 := by rw [← hh]; exact ((hcu.ext hE4 (fun e => by have h9 := OwnR.blk2 hci e; omega)).put 1 _).cong (by simp)
        have hEh5 : Ext (fun k => k = h.size) h4 h5 := by rw [← hh]; exact Ext.put _ _ rfl
        clear hh
        refine S_nilk [0, 3, 4, 5] (by simp only [proj, lk, reduceIte, Nat.reduceEqDiff]; rfl) ?_
        have hci5 : OwnR (h.size + 1) h5 a4 (cu.2 ++ [xs.getD i 0]).length c4 (ints (cu.2 ++ [xs.getD i 0])) 3 1 := by rw [ints_snoc, List.length_append]; exact OwnR.ext ho4 hEh5 (fun z e x => by have h9 := OwnR.blk2 ho4 (by rw [e]; rfl : blkA a4 = some z); omega)
        have hrv5 : RV (h.size + 1) hi_ h5 oa oc out := (hov.ext hE4 (fun z h1 h2 x => by have h9 := hcb z x; omega)).ext hEh5 (fun z h1 h2 x => by omega)
        have hcb5 : ∀ z, blkA a4 = some z → hi_ ≤ z := fun z e => by rcases hb4 z e with q | q; (exact hcb z q); (omega)
        refine hK9 _ _ ?_; clear hK9
        refine V_reg T.mix (by kernel_rfl) ?_
        refine S_mv rfl ?_
        first | refine S_add rfl rfl (by omega) (by omega) ?_ | refine S_bin rfl rfl rfl ?_
        refine S_as rfl ?_
        refine S_nilk [0, 3, 4, 5] (by simp only [proj, lk, reduceIte, Nat.reduceEqDiff]; rfl) ?_
        exact hK6 _ _ ⟨_, by omega, i + 1, h5, out, (cu.1, cu.2 ++ [xs.getD i 0]), oa, oc, a4, c4, hi_, by omega, hq5, (by rw [rowsAt_take (show i < xs.length by omega), hst]; unfold stepR; rw [if_neg c16, if_neg c18]), hci5, hrv5, hcb5, (hEk.step hE4 (fun z hz e => by have h9 := OwnR.blk2 hci e; omega)).step hEh5 (fun z hz e => by omega), (by simp; omega), rfl, rfl, rfl⟩
  · skip
    refine V_exitk [3] rfl (by simp only [proj, lk, reduceIte, Nat.reduceEqDiff]; rfl) ?_
    refine hK4 _ _ ?_; clear hK4
    refine V_sr T.mix (by kernel_rfl) (fun K13 hK13 => ?_)
    refine S_mv rfl ?_
    refine S_as rfl ?_
    refine S_nil (hK13 _ _ (V_keep [2] (by simp only [proj, lk, reduceIte, Nat.reduceEqDiff]; rfl) ?_)); clear hK13
    refine V_ret ?_
    refine hR _ _ (ret1 rfl rfl ?_)
    have hie : i = xs.length := by omega
    rw [hie, List.take_length] at hst
    have hro : rowsOf xs = out := by unfold rowsOf; rw [hst]
    rw [hro]
    exact ⟨oa, oc, rfl, hov.wid (by omega) hhi (Nat.le_refl _), hEk⟩
set_option maxHeartbeats 400000 in
theorem val_spec (h : Heap) (x : Int) (hx : -12 ≤ x ∧ x ≤ 12) (a : Option Addr) (cap : Nat) (xs : List Int) (ho : IL h a cap xs) (hl : xs.length ≤ 1099511627776) :
    FC Tryz.prog 133 (#[.int .i64 x, .slice a xs.length cap] : Array Value) h fun rv h' => ∃ v : Int, rv = .int .i64 v ∧ ValR xs x v ∧ h = h' := by
  refine FC_of [(0, .int .i64 x), (1, .slice a xs.length cap)] Tryz.func133 rfl Tryz.ntmps133 (by simp) rfl (fun R hR => ?_)
  refine V_sr T.mix (by kernel_rfl) (fun K1 hK1 => ?_)
  refine S_as rfl ?_
  refine S_nil (hK1 _ _ (V_keep [0, 1] (by simp only [proj, lk, reduceIte, Nat.reduceEqDiff]; rfl) ?_)); clear hK1
  refine V_seq (fun K2 hK2 => ?_)
  refine V_sr T.mix (by kernel_rfl) (fun K3 hK3 => ?_)
  refine S_as rfl ?_
  refine S_nil (hK3 _ _ (V_keep [0, 1, 5] (by simp only [proj, lk, reduceIte, Nat.reduceEqDiff]; rfl) ?_)); clear hK3
  refine V_block ?_
  refine V_loop (fun m l h' => ∃ (i : Nat), (i ≤ xs.length) ∧ (∀ y ∈ xs.take i, y ≠ x ∧ y ≠ -x) ∧ m = xs.length - i ∧ l = [(0, .int .i64 x), (1, .slice a xs.length cap), (5, .int .i64 (i : Int))] ∧ h = h') _ ⟨0, by omega, by simp, rfl, rfl, rfl⟩ ?_
  rintro m l h' ⟨i, hi, hn, rfl, rfl, rfl⟩ K4 hK4
  refine V_seq (fun K5 hK5 => ?_)
  refine V_sr T.mix (by kernel_rfl) (fun K6 hK6 => ?_)
  refine S_mv rfl ?_
  refine S_mv rfl ?_
  refine S_lenl T.el49 rfl ?_
  refine S_bin rfl rfl rfl ?_
  refine S_nil (hK6 _ _ (V_keep [0, 1, 5, 9] (by simp only [proj, lk, reduceIte, Nat.reduceEqDiff]; rfl) ?_)); clear hK6
  refine V_condp rfl (fun c79 => ?_) (fun c79 => ?_)
  · skip
    obtain ⟨bb, rfl, _, _, _⟩ := ho.get (by omega)
    refine V_skipk [0, 1, 5] (by simp only [proj, lk, reduceIte, Nat.reduceEqDiff]; rfl) ?_
    refine hK5 _ _ ?_; clear hK5
    refine V_seq (fun K7 hK7 => ?_)
    refine V_block ?_
    refine V_seq (fun K8 hK8 => ?_)
    refine V_sr T.mix (by kernel_rfl) (fun K9 hK9 => ?_)
    refine S_mv rfl ?_
    refine S_mv rfl ?_
    first | refine S_ixn T.el49 rfl rfl (by omega) ?_ | refine S_ix1 T.el49 rfl rfl (by omega) (by omega) ?_ | refine S_ix T.el49 rfl rfl (by omega) (by omega) ?_
    refine S_ldK T.ag3 rfl (fun K' hK' => ?_)
    simp (disch := omega) only [ho.at, oP_some, Nat.add_zero]
    refine hK' _ ?_; clear hK' K'
    refine S_mv rfl ?_
    refine S_bin rfl rfl rfl ?_
    refine S_nil (hK9 _ _ (V_keep [0, 1, 5, 17] (by simp only [proj, lk, reduceIte, Nat.reduceEqDiff]; rfl) ?_)); clear hK9
    refine V_condp rfl (fun c80 => ?_) (fun c80 => ?_)
    · skip
      refine V_sr T.mix (by kernel_rfl) (fun K10 hK10 => ?_)
      refine S_as rfl ?_
      refine S_nil (hK10 _ _ (V_keep [4] (by simp only [proj, lk, reduceIte, Nat.reduceEqDiff]; rfl) ?_)); clear hK10
      refine V_ret ?_
      refine hR _ _ (ret1 rfl rfl ?_)
      exact ⟨_, rfl, .inl ⟨rfl, by rw [← c80]; exact mem_at (by omega)⟩, rfl⟩
    · skip
      refine V_skipk [0, 1, 5] (by simp only [proj, lk, reduceIte, Nat.reduceEqDiff]; rfl) ?_
      refine hK8 _ _ ?_; clear hK8
      refine V_sr T.mix (by kernel_rfl) (fun K11 hK11 => ?_)
      refine S_mv rfl ?_
      refine S_mv rfl ?_
      first | refine S_ixn T.el49 rfl rfl (by omega) ?_ | refine S_ix1 T.el49 rfl rfl (by omega) (by omega) ?_ | refine S_ix T.el49 rfl rfl (by omega) (by omega) ?_
      refine S_ldK T.ag3 rfl (fun K' hK' => ?_)
      simp (disch := omega) only [ho.at, oP_some, Nat.add_zero]
      refine hK' _ ?_; clear hK' K'
      refine S_mv rfl ?_
      first | refine S_neg rfl (by omega) (by omega) ?_ | refine S_un rfl rfl ?_
      refine S_bin rfl rfl rfl ?_
      refine S_nil (hK11 _ _ (V_keep [0, 1, 5, 24] (by simp only [proj, lk, reduceIte, Nat.reduceEqDiff]; rfl) ?_)); clear hK11
      refine V_condp rfl (fun c83 => ?_) (fun c83 => ?_)
      · skip
        refine V_sr T.mix (by kernel_rfl) (fun K12 hK12 => ?_)
        refine S_as rfl ?_
        refine S_nil (hK12 _ _ (V_keep [4] (by simp only [proj, lk, reduceIte, Nat.reduceEqDiff]; rfl) ?_)); clear hK12
        refine V_ret ?_
        refine hR _ _ (ret1 rfl rfl ?_)
        exact ⟨_, rfl, .inr (.inl ⟨rfl, by rw [← c83]; exact mem_at (by omega)⟩), rfl⟩
      · skip
        refine V_skipk [0, 1, 5] (by simp only [proj, lk, reduceIte, Nat.reduceEqDiff]; rfl) ?_
        refine hK7 _ _ ?_; clear hK7
        refine V_reg T.mix (by kernel_rfl) ?_
        refine S_mv rfl ?_
        first | refine S_add rfl rfl (by omega) (by omega) ?_ | refine S_bin rfl rfl rfl ?_
        refine S_as rfl ?_
        refine S_nilk [0, 1, 5] (by simp only [proj, lk, reduceIte, Nat.reduceEqDiff]; rfl) ?_
        exact hK4 _ _ ⟨_, by omega, i + 1, by omega, take_none (by omega) hn c80 c83, rfl, rfl, rfl⟩
  · skip
    refine V_exitk [] rfl (by simp only [proj, lk, reduceIte, Nat.reduceEqDiff]; rfl) ?_
    refine hK2 _ _ ?_; clear hK2
    refine V_sr T.mix (by kernel_rfl) (fun K13 hK13 => ?_)
    refine S_as rfl ?_
    refine S_nil (hK13 _ _ (V_keep [4] (by simp only [proj, lk, reduceIte, Nat.reduceEqDiff]; rfl) ?_)); clear hK13
    refine V_ret ?_
    refine hR _ _ (ret1 rfl rfl ?_)
    exact ⟨_, rfl, val_none (by omega) hn, rfl⟩
set_option maxHeartbeats 400000 in
theorem state_spec (h : Heap) (ac : Option Addr) (cc : Nat) (c : List Int) (hc : IL h ac cc c) (hn : Nrm c) (ao : Option Addr) (oc : Nat) (on : List Int) (ho : IL h ao oc on) (hlo : on.length ≤ 1099511627776) (hcon : Con (· ∈ on)) :
    FC Tryz.prog 135 (#[.slice ac c.length cc, .slice ao on.length oc] : Array Value) h fun rv h' => ∃ s u : Int, rv = .tuple #[.int .i64 s, .int .i64 u] ∧ StR c on s u ∧ h = h' := by
  have hcl := hn.len
  refine FC_of [(0, .slice ac c.length cc), (1, .slice ao on.length oc)] Tryz.func135 rfl Tryz.ntmps135 (by simp) rfl (fun R hR => ?_)
  refine V_sr T.mix (by kernel_rfl) (fun K1 hK1 => ?_)
  refine S_as rfl ?_
  refine S_as rfl ?_
  refine S_nil (hK1 _ _ (V_keep [0, 1] (by simp only [proj, lk, reduceIte, Nat.reduceEqDiff]; rfl) ?_)); clear hK1
  refine V_sr T.mix (by kernel_rfl) (fun K2 hK2 => ?_)
  refine S_as rfl ?_
  refine S_nil (hK2 _ _ (V_keep [0, 1, 6] (by simp only [proj, lk, reduceIte, Nat.reduceEqDiff]; rfl) ?_)); clear hK2
  refine V_sr T.mix (by kernel_rfl) (fun K3 hK3 => ?_)
  refine S_as rfl ?_
  refine S_nil (hK3 _ _ (V_keep [0, 1, 6, 7] (by simp only [proj, lk, reduceIte, Nat.reduceEqDiff]; rfl) ?_)); clear hK3
  refine V_seq (fun K4 hK4 => ?_)
  refine V_sr T.mix (by kernel_rfl) (fun K5 hK5 => ?_)
  refine S_as rfl ?_
  refine S_nil (hK5 _ _ (V_keep [0, 1, 6, 7, 8] (by simp only [proj, lk, reduceIte, Nat.reduceEqDiff]; rfl) ?_)); clear hK5
  refine V_block ?_
  refine V_loop (fun m l h' => ∃ (i : Nat) (n : Nat) (u : Int), (i ≤ c.length) ∧ (StP c on i n u) ∧ (n ≤ i) ∧ m = c.length - i ∧ l = [(0, .slice ac c.length cc), (1, .slice ao on.length oc), (6, .int .i64 (n : Int)), (7, .int .i64 u), (8, .int .i64 (i : Int))] ∧ h = h') _ ⟨0, 0, 0, by omega, .inl ⟨rfl, by simp⟩, by omega, rfl, rfl, rfl⟩ ?_
  rintro m l h' ⟨i, n, u, hi, hst, hni, rfl, rfl, rfl⟩ K6 hK6
  refine V_seq (fun K7 hK7 => ?_)
  refine V_sr T.mix (by kernel_rfl) (fun K8 hK8 => ?_)
  refine S_mv rfl ?_
  refine S_mv rfl ?_
  refine S_lenl T.el49 rfl ?_
  refine S_bin rfl rfl rfl ?_
  refine S_nil (hK8 _ _ (V_keep [0, 1, 6, 7, 8, 13] (by simp only [proj, lk, reduceIte, Nat.reduceEqDiff]; rfl) ?_)); clear hK8
  refine V_condp rfl (fun c94 => ?_) (fun c94 => ?_)
  · skip
    obtain ⟨bb, rfl, _, _, _⟩ := hc.get (by omega)
    have hgd := gd_getD hn.1 (show i < c.length by omega)
    unfold gd at hgd
    refine V_skipk [0, 1, 6, 7, 8] (by simp only [proj, lk, reduceIte, Nat.reduceEqDiff]; rfl) ?_
    refine hK7 _ _ ?_; clear hK7
    refine V_seq (fun K9 hK9 => ?_)
    refine V_block ?_
    refine V_sr T.mix (by kernel_rfl) (fun K10 hK10 => ?_)
    refine S_mv rfl ?_
    refine S_mv rfl ?_
    first | refine S_ixn T.el49 rfl rfl (by omega) ?_ | refine S_ix1 T.el49 rfl rfl (by omega) (by omega) ?_ | refine S_ix T.el49 rfl rfl (by omega) (by omega) ?_
    refine S_ldK T.ag3 rfl (fun K' hK' => ?_)
    simp (disch := omega) only [hc.at, oP_some, Nat.add_zero]
    refine hK' _ ?_; clear hK' K'
    refine S_mv rfl ?_
    refine S_call T.hb133 rfl ?_
    refine FC.mono (val_spec h (c.getD i 0) (by omega) ao oc on ho hlo) ?_
    rintro v' h' ⟨v, rfl, hv, rfl⟩
    refine S_as rfl ?_
    refine S_nil (hK10 _ _ (V_keep [0, 1, 6, 7, 8, 9] (by simp only [proj, lk, reduceIte, Nat.reduceEqDiff]; rfl) ?_)); clear hK10
    refine V_seq (fun K11 hK11 => ?_)
    refine V_sr T.mix (by kernel_rfl) (fun K12 hK12 => ?_)
    refine S_mv rfl ?_
    refine S_bin rfl rfl rfl ?_
    refine S_nil (hK12 _ _ (V_keep [0, 1, 6, 7, 8, 9, 23] (by simp only [proj, lk, reduceIte, Nat.reduceEqDiff]; rfl) ?_)); clear hK12
    refine V_condp rfl (fun c96 => ?_) (fun c96 => ?_)
    · skip
      refine V_sr T.mix (by kernel_rfl) (fun K13 hK13 => ?_)
      refine S_as rfl ?_
      refine S_as rfl ?_
      refine S_nil (hK13 _ _ (V_keep [4, 5] (by simp only [proj, lk, reduceIte, Nat.reduceEqDiff]; rfl) ?_)); clear hK13
      refine V_ret ?_
      refine hR _ _ (ret2 rfl rfl rfl ?_)
      exact ⟨_, _, rfl, .inl ⟨rfl, c.getD i 0, mem_at (by omega), by rcases hv with q | q | q; (exact q.2); (omega); (omega)⟩, rfl⟩
    · skip
      refine V_skipk [0, 1, 6, 7, 8, 9] (by simp only [proj, lk, reduceIte, Nat.reduceEqDiff]; rfl) ?_
      refine hK11 _ _ ?_; clear hK11
      refine V_sr T.mix (by kernel_rfl) (fun K14 hK14 => ?_)
      refine S_mv rfl ?_
      refine S_bin rfl rfl rfl ?_
      refine S_nil (hK14 _ _ (V_keep [0, 1, 6, 7, 8, 25] (by simp only [proj, lk, reduceIte, Nat.reduceEqDiff]; rfl) ?_)); clear hK14
      refine V_condp rfl (fun c99 => ?_) (fun c99 => ?_)
      · skip
        have hop : c.getD i 0 ∉ on ∧ -(c.getD i 0) ∉ on := by rcases hv with q | q | q; (omega); (omega); (exact q.2)
        refine V_sr T.mix (by kernel_rfl) (fun K15 hK15 => ?_)
        refine S_mv rfl ?_
        first | refine S_add rfl rfl (by omega) (by omega) ?_ | refine S_bin rfl rfl rfl ?_
        refine S_as rfl ?_
        refine S_nil (hK15 _ _ (V_keep [0, 1, 6, 8] (by simp only [proj, lk, reduceIte, Nat.reduceEqDiff]; rfl) ?_)); clear hK15
        refine V_reg T.mix (by kernel_rfl) ?_
        refine S_mv rfl ?_
        refine S_mv rfl ?_
        first | refine S_ixn T.el49 rfl rfl (by omega) ?_ | refine S_ix1 T.el49 rfl rfl (by omega) (by omega) ?_ | refine S_ix T.el49 rfl rfl (by omega) (by omega) ?_
        refine S_ldK T.ag3 rfl (fun K' hK' => ?_)
        simp (disch := omega) only [hc.at, oP_some, Nat.add_zero]
        refine hK' _ ?_; clear hK' K'
        refine S_as rfl ?_
        refine S_nilk [0, 1, 6, 7, 8] (by simp only [proj, lk, reduceIte, Nat.reduceEqDiff]; rfl) ?_
        refine hK9 _ _ ?_; clear hK9
        refine V_reg T.mix (by kernel_rfl) ?_
        refine S_mv rfl ?_
        first | refine S_add rfl rfl (by omega) (by omega) ?_ | refine S_bin rfl rfl rfl ?_
        refine S_as rfl ?_
        refine S_nilk [0, 1, 6, 7, 8] (by simp only [proj, lk, reduceIte, Nat.reduceEqDiff]; rfl) ?_
        exact hK6 _ _ ⟨_, by omega, i + 1, n + 1, c.getD i 0, by omega, hst.open hn.nodup (by omega) hop.1 hop.2, by omega, rfl, rfl, rfl⟩
      · skip
        have hfa : -(c.getD i 0) ∈ on := by rcases hv with q | q | q; (omega); (exact q.2); (omega)
        refine V_skipk [0, 1, 6, 7, 8] (by simp only [proj, lk, reduceIte, Nat.reduceEqDiff]; rfl) ?_
        refine hK9 _ _ ?_; clear hK9
        refine V_reg T.mix (by kernel_rfl) ?_
        refine S_mv rfl ?_
        first | refine S_add rfl rfl (by omega) (by omega) ?_ | refine S_bin rfl rfl rfl ?_
        refine S_as rfl ?_
        refine S_nilk [0, 1, 6, 7, 8] (by simp only [proj, lk, reduceIte, Nat.reduceEqDiff]; rfl) ?_
        exact hK6 _ _ ⟨_, by omega, i + 1, n, u, by omega, hst.down (by omega) hfa, by omega, rfl, rfl, rfl⟩
  · skip
    refine V_exitk [6, 7] rfl (by simp only [proj, lk, reduceIte, Nat.reduceEqDiff]; rfl) ?_
    refine hK4 _ _ ?_; clear hK4
    refine V_seq (fun K16 hK16 => ?_)
    refine V_sr T.mix (by kernel_rfl) (fun K17 hK17 => ?_)
    refine S_mv rfl ?_
    refine S_bin rfl rfl rfl ?_
    refine S_nil (hK17 _ _ (V_keep [6, 7, 33] (by simp only [proj, lk, reduceIte, Nat.reduceEqDiff]; rfl) ?_)); clear hK17
    refine V_condp rfl (fun c104 => ?_) (fun c104 => ?_)
    · skip
      refine V_sr T.mix (by kernel_rfl) (fun K18 hK18 => ?_)
      refine S_as rfl ?_
      refine S_as rfl ?_
      refine S_nil (hK18 _ _ (V_keep [4, 5] (by simp only [proj, lk, reduceIte, Nat.reduceEqDiff]; rfl) ?_)); clear hK18
      refine V_ret ?_
      refine hR _ _ (ret2 rfl rfl rfl ?_)
      have hie : i = c.length := by omega
      subst hie
      have hf := hst.fin
      rw [if_pos (show n = 0 by omega), if_neg (show ¬ n = 1 by omega)] at hf
      exact ⟨_, _, rfl, hf, rfl⟩
    · skip
      refine V_skipk [6, 7] (by simp only [proj, lk, reduceIte, Nat.reduceEqDiff]; rfl) ?_
      refine hK16 _ _ ?_; clear hK16
      refine V_seq (fun K19 hK19 => ?_)
      refine V_sr T.mix (by kernel_rfl) (fun K20 hK20 => ?_)
      refine S_mv rfl ?_
      refine S_bin rfl rfl rfl ?_
      refine S_nil (hK20 _ _ (V_keep [7, 35] (by simp only [proj, lk, reduceIte, Nat.reduceEqDiff]; rfl) ?_)); clear hK20
      refine V_condp rfl (fun c107 => ?_) (fun c107 => ?_)
      · skip
        refine V_sr T.mix (by kernel_rfl) (fun K21 hK21 => ?_)
        refine S_mv rfl ?_
        refine S_as rfl ?_
        refine S_as rfl ?_
        refine S_nil (hK21 _ _ (V_keep [4, 5] (by simp only [proj, lk, reduceIte, Nat.reduceEqDiff]; rfl) ?_)); clear hK21
        refine V_ret ?_
        refine hR _ _ (ret2 rfl rfl rfl ?_)
        have hie : i = c.length := by omega
        subst hie
        have hf := hst.fin
        rw [if_neg (show ¬ n = 0 by omega), if_pos (show n = 1 by omega), if_pos (show n = 1 by omega)] at hf
        exact ⟨_, _, rfl, hf, rfl⟩
      · skip
        refine V_skipk [] (by simp only [proj, lk, reduceIte, Nat.reduceEqDiff]; rfl) ?_
        refine hK19 _ _ ?_; clear hK19
        refine V_sr T.mix (by kernel_rfl) (fun K22 hK22 => ?_)
        refine S_as rfl ?_
        refine S_as rfl ?_
        refine S_nil (hK22 _ _ (V_keep [4, 5] (by simp only [proj, lk, reduceIte, Nat.reduceEqDiff]; rfl) ?_)); clear hK22
        refine V_ret ?_
        refine hR _ _ (ret2 rfl rfl rfl ?_)
        have hie : i = c.length := by omega
        subst hie
        have hf := hst.fin
        rw [if_neg (show ¬ n = 0 by omega), if_neg (show ¬ n = 1 by omega), if_neg (show ¬ n = 1 by omega)] at hf
        exact ⟨_, _, rfl, hf, rfl⟩
set_option maxHeartbeats 1600000 in
theorem closure_spec (h : Heap) (la : Option Addr) (lc lo hi_ : Nat) (cs : List (List Int)) (hlv : LV lo hi_ h la lc cs) (hcs : ∀ c ∈ cs, Nrm c) (hll : cs.length ≤ 1099511627776) (ao : Option Addr) (oc : Nat) (on : List Int) (ho : IL h ao oc on) (hlo : on.length ≤ 1000) (hgo : ∀ x ∈ on, gd x) (hcon : Con (· ∈ on)) :
    FC Tryz.prog 111 (#[.slice la cs.length lc, .slice ao on.length oc] : Array Value) h fun rv h' => ∃ (a' : Option Addr) (n' c' : Nat) (g : Bool), rv = .tuple #[.slice a' n' c', .bool g] ∧ (g = true ↔ ¬ Fix cs (· ∈ on)) ∧ Ext (fun _ => False) h h' := by
  refine FC_of [(0, .slice la cs.length lc), (1, .slice ao on.length oc)] Tryz.func111 rfl Tryz.ntmps111 (by simp) rfl (fun R hR => ?_)
  refine V_sr T.mix (by kernel_rfl) (fun K1 hK1 => ?_)
  refine S_as rfl ?_
  refine S_as rfl ?_
  refine S_nil (hK1 _ _ (V_keep [0, 1] (by simp only [proj, lk, reduceIte, Nat.reduceEqDiff]; rfl) ?_)); clear hK1
  refine V_sr T.mix (by kernel_rfl) (fun K2 hK2 => ?_)
  refine S_mv rfl ?_
  refine S_call T.hb87 rfl ?_
  refine FC.mono (copyints_spec h ao oc on ho (by omega)) ?_
  rintro v' h1 ⟨ua, rfl, hua, hE1, hfn, hub⟩
  have hu1 : OwnR h.size h1 ua on.length on.length (ints on) 3 1 := by rcases hua with q | ⟨bq, cq, q1, q2, q3⟩; (exact .inl q); (exact .inr ⟨bq, cq, q1, hub bq (by rw [q1]; rfl), q3⟩)
  refine S_as rfl ?_
  refine S_nil (hK2 _ _ (V_keep [0, 6] (by simp only [proj, lk, reduceIte, Nat.reduceEqDiff]; rfl) ?_)); clear hK2
  refine V_seq (fun K3 hK3 => ?_)
  refine V_sr T.mix (by kernel_rfl) (fun K4 hK4 => ?_)
  refine S_as rfl ?_
  refine S_nil (hK4 _ _ (V_keep [0, 6, 7] (by simp only [proj, lk, reduceIte, Nat.reduceEqDiff]; rfl) ?_)); clear hK4
  refine V_block ?_
  refine V_loop (fun m l h' => ∃ (r : Nat) (hk : Heap) (out : List Int) (ua : Option Addr) (uc : Nat), (r ≤ 13) ∧ (Clo1 cs on out r false 0) ∧ (Ext (fun _ => False) h hk) ∧ (OwnR h.size hk ua out.length uc (ints out) 3 1) ∧ m = 13 - r ∧ l = [(0, .slice la cs.length lc), (6, .slice ua out.length uc), (7, .int .i64 (r : Int))] ∧ hk = h') _ ⟨0, h1, on, ua, on.length, by omega, Clo1.fresh hgo hcon rfl, hE1, hu1, rfl, rfl, rfl⟩ ?_
  rintro m l h' ⟨r, hk, out, ua, uc, hr, hcl, hE, hou, rfl, rfl, rfl⟩ K5 hK5
  have hvl := vcnt_le (pM out) (nM out)
  have hol := hcl.len
  refine V_seq (fun K6 hK6 => ?_)
  refine V_sr T.mix (by kernel_rfl) (fun K7 hK7 => ?_)
  refine S_mv rfl ?_
  refine S_bin rfl rfl rfl ?_
  refine S_nil (hK7 _ _ (V_keep [0, 6, 7, 15] (by simp only [proj, lk, reduceIte, Nat.reduceEqDiff]; rfl) ?_)); clear hK7
  refine V_condp rfl (fun c117 => ?_) (fun c117 => ?_)
  · skip
    refine V_skipk [0, 6, 7] (by simp only [proj, lk, reduceIte, Nat.reduceEqDiff]; rfl) ?_
    refine hK6 _ _ ?_; clear hK6
    refine V_seq (fun K8 hK8 => ?_)
    refine V_block ?_
    refine V_sr T.mix (by kernel_rfl) (fun K9 hK9 => ?_)
    refine S_as rfl ?_
    refine S_nil (hK9 _ _ (V_keep [0, 6, 7, 8] (by simp only [proj, lk, reduceIte, Nat.reduceEqDiff]; rfl) ?_)); clear hK9
    refine V_seq (fun K10 hK10 => ?_)
    refine V_sr T.mix (by kernel_rfl) (fun K11 hK11 => ?_)
    refine S_as rfl ?_
    refine S_nil (hK11 _ _ (V_keep [0, 6, 7, 8, 9] (by simp only [proj, lk, reduceIte, Nat.reduceEqDiff]; rfl) ?_)); clear hK11
    refine V_block ?_
    refine V_loop (fun m l h' => ∃ (i : Nat) (hk2 : Heap) (out2 : List Int) (ua2 : Option Addr) (uc2 : Nat) (g : Bool), (i ≤ cs.length) ∧ (Clo1 cs on out2 r g i) ∧ (Ext (fun _ => False) h hk2) ∧ (OwnR h.size hk2 ua2 out2.length uc2 (ints out2) 3 1) ∧ m = cs.length - i ∧ l = [(0, .slice la cs.length lc), (6, .slice ua2 out2.length uc2), (7, .int .i64 (r : Int)), (8, .bool (decide (g = true))), (9, .int .i64 (i : Int))] ∧ hk2 = h') _ ⟨0, hk, out, ua, uc, false, by omega, hcl, hE, hou, rfl, rfl, rfl⟩ ?_
    rintro m l h' ⟨i, hk2, out2, ua2, uc2, g, hi, hcl2, hE2, hou2, rfl, rfl, rfl⟩ K12 hK12
    have hs2 := hE2.1
    have hvl2 := vcnt_le (pM out2) (nM out2)
    have hol2 := hcl2.len
    refine V_seq (fun K13 hK13 => ?_)
    refine V_sr T.mix (by kernel_rfl) (fun K14 hK14 => ?_)
    refine S_mv rfl ?_
    refine S_mv rfl ?_
    refine S_lenl T.el38 rfl ?_
    refine S_bin rfl rfl rfl ?_
    refine S_nil (hK14 _ _ (V_keep [0, 6, 7, 8, 9, 21] (by simp only [proj, lk, reduceIte, Nat.reduceEqDiff]; rfl) ?_)); clear hK14
    refine V_condp rfl (fun c119 => ?_) (fun c119 => ?_)
    · skip
      obtain ⟨bb, rfl, _, _, hgt⟩ := (hlv.ext hE2 (fun z _ _ f => f)).get (by omega)
      obtain ⟨ai, ci, hcell, hIc, hbi⟩ := hgt i (by omega)
      refine V_skipk [0, 6, 7, 8, 9] (by simp only [proj, lk, reduceIte, Nat.reduceEqDiff]; rfl) ?_
      refine hK13 _ _ ?_; clear hK13
      refine V_seq (fun K15 hK15 => ?_)
      refine V_block ?_
      refine V_sr T.mix (by kernel_rfl) (fun K16 hK16 => ?_)
      refine S_mv rfl ?_
      refine S_mv rfl ?_
      first | refine S_ixn T.el38 rfl rfl (by omega) ?_ | refine S_ix1 T.el38 rfl rfl (by omega) (by omega) ?_ | refine S_ix T.el38 rfl rfl (by omega) (by omega) ?_
      refine S_ldK T.ag49 rfl (fun K' hK' => ?_)
      simp (disch := omega) only [hcell, oP_some, Nat.add_zero]
      refine hK' _ ?_; clear hK' K'
      refine S_mv rfl ?_
      refine S_call T.hb135 rfl ?_
      refine FC.mono (state_spec hk2 ai ci (cs.getD i []) hIc (hcs _ (getD_mem (by omega))) ua2 uc2 out2 (own0 hou2) (by omega) hcl2.con) ?_
      rintro v' h' ⟨s, u, rfl, hst, rfl⟩
      refine S_mv rfl ?_
      refine S_ex rfl rfl ?_
      refine S_ex rfl rfl ?_
      refine S_as rfl ?_
      refine S_as rfl ?_
      refine S_nil (hK16 _ _ (V_keep [0, 6, 7, 8, 9, 10, 11] (by simp only [proj, lk, reduceIte, Nat.reduceEqDiff]; rfl) ?_)); clear hK16
      refine V_seq (fun K17 hK17 => ?_)
      refine V_sr T.mix (by kernel_rfl) (fun K18 hK18 => ?_)
      refine S_mv rfl ?_
      refine S_bin rfl rfl rfl ?_
      refine S_nil (hK18 _ _ (V_keep [0, 6, 7, 8, 9, 10, 11, 34] (by simp only [proj, lk, reduceIte, Nat.reduceEqDiff]; rfl) ?_)); clear hK18
      refine V_condp rfl (fun c121 => ?_) (fun c121 => ?_)
      · skip
        refine V_sr T.mix (by kernel_rfl) (fun K19 hK19 => ?_)
        refine S_mv rfl ?_
        refine S_as rfl ?_
        refine S_as rfl ?_
        refine S_nil (hK19 _ _ (V_keep [4, 5] (by simp only [proj, lk, reduceIte, Nat.reduceEqDiff]; rfl) ?_)); clear hK19
        refine V_ret ?_
        refine hR _ _ (ret2 rfl rfl rfl ?_)
        exact ⟨_, _, _, true, rfl, ⟨fun _ => snd_hit hcl2.snd (getD_mem (show i < cs.length by omega)) (by rcases hst with q | q | q | q; (omega); (exact q.2); (omega); (omega)), fun _ => rfl⟩, hE2⟩
      · skip
        refine V_skipk [0, 6, 7, 8, 9, 10, 11] (by simp only [proj, lk, reduceIte, Nat.reduceEqDiff]; rfl) ?_
        refine hK17 _ _ ?_; clear hK17
        refine V_sr T.mix (by kernel_rfl) (fun K20 hK20 => ?_)
        refine S_mv rfl ?_
        refine S_bin rfl rfl rfl ?_
        refine S_nil (hK20 _ _ (V_keep [0, 6, 7, 8, 9, 11, 37] (by simp only [proj, lk, reduceIte, Nat.reduceEqDiff]; rfl) ?_)); clear hK20
        refine V_condp rfl (fun c124 => ?_) (fun c124 => ?_)
        · skip
          obtain ⟨k1, k2, k3, k4⟩ : u ∈ cs.getD i [] ∧ u ∉ out2 ∧ -u ∉ out2 ∧ ∀ y ∈ cs.getD i [], y ≠ u → -y ∈ out2 := by rcases hst with q | q | q | q; (omega); (omega); (exact q.2); (omega)
          have hcu := hcl2.unit (by omega) (hcs _ (getD_mem (by omega))) k1 k2 k3 k4
          refine V_sr T.mix (by kernel_rfl) (fun K21 hK21 => ?_)
          refine S_mv rfl ?_
          refine S_mv rfl ?_
          refine S_bs T.ei49 rfl (by decide) (by decide) (T.bs49_1_0 _) ?_
          refine S_appx (lo := h.size) T.ei49 T.ni49 T.us49 rfl rfl rfl (OwnR.ext hou2 (Ext.push (fun _ => False) _ _) (fun _ _ f => f)) (by simp; omega) (cellsH_new _ _ _) rfl (by omega) (by decide) (by decide) rfl (fun a4 c4 h4 ho4 hE4x hb4x => ?_)
          have hE4 : Ext (fun z => blkA ua2 = some z) hk2 h4 := (Ext.push _ _ _).trans hE4x
          have hb4 := new_blk (h := hk2) hb4x (by simp)
          have hou4 : OwnR h.size h4 a4 (out2 ++ [u]).length c4 (ints (out2 ++ [u])) 3 1 := by rw [ints_snoc, List.length_append]; exact ho4
          refine S_as rfl ?_
          refine S_nil (hK21 _ _ (V_keep [0, 6, 7, 9] (by simp only [proj, lk, reduceIte, Nat.reduceEqDiff]; rfl) ?_)); clear hK21
          refine V_reg T.mix (by kernel_rfl) ?_
          refine S_as rfl ?_
          refine S_nilk [0, 6, 7, 8, 9] (by simp only [proj, lk, reduceIte, Nat.reduceEqDiff]; rfl) ?_
          refine hK15 _ _ ?_; clear hK15
          refine V_reg T.mix (by kernel_rfl) ?_
          refine S_mv rfl ?_
          first | refine S_add rfl rfl (by omega) (by omega) ?_ | refine S_bin rfl rfl rfl ?_
          refine S_as rfl ?_
          refine S_nilk [0, 6, 7, 8, 9] (by simp only [proj, lk, reduceIte, Nat.reduceEqDiff]; rfl) ?_
          exact hK12 _ _ ⟨_, by omega, i + 1, h4, out2 ++ [u], a4, c4, true, by omega, hcu, (hE2.step hE4 (fun z hz e => by have h9 := OwnR.blk2 hou2 e; omega)), hou4, rfl, by simp, rfl⟩
        · skip
          have hdn : Done (· ∈ out2) (cs.getD i []) := by rcases hst with q | q | q | q; (exact .inl q.2); (omega); (omega); (exact .inr q.2)
          refine V_skipk [0, 6, 7, 8, 9] (by simp only [proj, lk, reduceIte, Nat.reduceEqDiff]; rfl) ?_
          refine hK15 _ _ ?_; clear hK15
          refine V_reg T.mix (by kernel_rfl) ?_
          refine S_mv rfl ?_
          first | refine S_add rfl rfl (by omega) (by omega) ?_ | refine S_bin rfl rfl rfl ?_
          refine S_as rfl ?_
          refine S_nilk [0, 6, 7, 8, 9] (by simp only [proj, lk, reduceIte, Nat.reduceEqDiff]; rfl) ?_
          exact hK12 _ _ ⟨_, by omega, i + 1, hk2, out2, ua2, uc2, g, by omega, hcl2.skip (by omega) hdn, hE2, hou2, rfl, rfl, rfl⟩
    · skip
      refine V_exitk [0, 6, 7, 8] rfl (by simp only [proj, lk, reduceIte, Nat.reduceEqDiff]; rfl) ?_
      refine hK10 _ _ ?_; clear hK10
      refine V_sr T.mix (by kernel_rfl) (fun K22 hK22 => ?_)
      refine S_mv rfl ?_
      refine S_not rfl ?_
      refine S_nil (hK22 _ _ (V_keep [0, 6, 7, 43] (by simp only [proj, lk, reduceIte, Nat.reduceEqDiff]; rfl) ?_)); clear hK22
      refine V_condp rfl (fun c129 => ?_) (fun c129 => ?_)
      · skip
        refine V_sr T.mix (by kernel_rfl) (fun K23 hK23 => ?_)
        refine S_mv rfl ?_
        refine S_as rfl ?_
        refine S_as rfl ?_
        refine S_nil (hK23 _ _ (V_keep [4, 5] (by simp only [proj, lk, reduceIte, Nat.reduceEqDiff]; rfl) ?_)); clear hK23
        refine V_ret ?_
        refine hR _ _ (ret2 rfl rfl rfl ?_)
        have hgf : g = false := by simpa using c129
        subst hgf
        exact ⟨_, _, _, false, rfl, ⟨fun e => (by cases e), fun e => absurd (hcl2.fix (by omega)) e⟩, hE2⟩
      · skip
        refine V_skipk [0, 6, 7] (by simp only [proj, lk, reduceIte, Nat.reduceEqDiff]; rfl) ?_
        refine hK8 _ _ ?_; clear hK8
        refine V_reg T.mix (by kernel_rfl) ?_
        refine S_mv rfl ?_
        first | refine S_add rfl rfl (by omega) (by omega) ?_ | refine S_bin rfl rfl rfl ?_
        refine S_as rfl ?_
        refine S_nilk [0, 6, 7] (by simp only [proj, lk, reduceIte, Nat.reduceEqDiff]; rfl) ?_
        have hgt : g = true := by simpa using c129
        subst hgt
        exact hK5 _ _ ⟨_, by omega, r + 1, hk2, out2, ua2, uc2, by omega, hcl2.next, hE2, hou2, rfl, rfl, rfl⟩
  · skip
    refine V_exitk [6] rfl (by simp only [proj, lk, reduceIte, Nat.reduceEqDiff]; rfl) ?_
    refine hK3 _ _ ?_; clear hK3
    refine V_sr T.mix (by kernel_rfl) (fun K24 hK24 => ?_)
    refine S_mv rfl ?_
    refine S_as rfl ?_
    refine S_as rfl ?_
    refine S_nil (hK24 _ _ (V_keep [4, 5] (by simp only [proj, lk, reduceIte, Nat.reduceEqDiff]; rfl) ?_)); clear hK24
    refine V_ret ?_
    refine hR _ _ (ret2 rfl rfl rfl ?_)
    exact absurd (hcl.no rfl).1 (by omega)
set_option maxHeartbeats 400000 in
theorem mrup_spec (h : Heap) (la : Option Addr) (lc lo hi_ : Nat) (cs : List (List Int)) (hlv : LV lo hi_ h la lc cs) (hcs : ∀ c ∈ cs, Nrm c) (hll : cs.length ≤ 1099511627776) (ac : Option Addr) (cc : Nat) (c : List Int) (hc : IL h ac cc c) (hn : Nrm c) :
    FC Tryz.prog 81 (#[.slice la cs.length lc, .slice ac c.length cc] : Array Value) h fun rv h' => ∃ g : Bool, rv = .bool g ∧ (g = true ↔ ¬ Fix cs (deny c)) ∧ Ext (fun _ => False) h h' := by
  have hcl := hn.len
  refine FC_of [(0, .slice la cs.length lc), (1, .slice ac c.length cc)] Tryz.func81 rfl Tryz.ntmps81 (by simp) rfl (fun R hR => ?_)
  refine V_sr T.mix (by kernel_rfl) (fun K1 hK1 => ?_)
  refine S_as rfl ?_
  refine S_nil (hK1 _ _ (V_keep [0, 1] (by simp only [proj, lk, reduceIte, Nat.reduceEqDiff]; rfl) ?_)); clear hK1
  refine V_sr T.mix (by kernel_rfl) (fun K2 hK2 => ?_)
  refine S_as rfl ?_
  refine S_nil (hK2 _ _ (V_keep [0, 1, 5] (by simp only [proj, lk, reduceIte, Nat.reduceEqDiff]; rfl) ?_)); clear hK2
  refine V_seq (fun K3 hK3 => ?_)
  refine V_sr T.mix (by kernel_rfl) (fun K4 hK4 => ?_)
  refine S_as rfl ?_
  refine S_nil (hK4 _ _ (V_keep [0, 1, 5, 6] (by simp only [proj, lk, reduceIte, Nat.reduceEqDiff]; rfl) ?_)); clear hK4
  refine V_block ?_
  refine V_loop (fun m l h' => ∃ (i : Nat) (hk : Heap) (oa : Option Addr) (oc : Nat) (on : List Int), (i ≤ c.length) ∧ (on = (c.take i).map (fun x => -x)) ∧ (OwnR h.size hk oa on.length oc (ints on) 3 1) ∧ (Ext (fun _ => False) h hk) ∧ m = c.length - i ∧ l = [(0, .slice la cs.length lc), (1, .slice ac c.length cc), (5, .slice oa on.length oc), (6, .int .i64 (i : Int))] ∧ hk = h') _ ⟨0, h, none, 0, [], by omega, by simp, OwnR.nil _ _ _ _, Ext.refl _ _, rfl, rfl, rfl⟩ ?_
  rintro m l h' ⟨i, hk, oa, oc, on, hi, hon, hoo, hE, rfl, rfl, rfl⟩ K5 hK5
  have hs2 := hE.1
  have hc2 := hc.ext hE (fun _ _ f => f)
  have hol : on.length ≤ i := by rw [hon]; simp; omega
  refine V_seq (fun K6 hK6 => ?_)
  refine V_sr T.mix (by kernel_rfl) (fun K7 hK7 => ?_)
  refine S_mv rfl ?_
  refine S_mv rfl ?_
  refine S_lenl T.el49 rfl ?_
  refine S_bin rfl rfl rfl ?_
  refine S_nil (hK7 _ _ (V_keep [0, 1, 5, 6, 12] (by simp only [proj, lk, reduceIte, Nat.reduceEqDiff]; rfl) ?_)); clear hK7
  refine V_condp rfl (fun c139 => ?_) (fun c139 => ?_)
  · skip
    obtain ⟨bb, rfl, _, _, _⟩ := hc2.get (by omega)
    have hgd := gd_getD hn.1 (show i < c.length by omega)
    unfold gd at hgd
    refine V_skipk [0, 1, 5, 6] (by simp only [proj, lk, reduceIte, Nat.reduceEqDiff]; rfl) ?_
    refine hK6 _ _ ?_; clear hK6
    refine V_seq (fun K8 hK8 => ?_)
    refine V_block ?_
    refine V_reg T.mix (by kernel_rfl) ?_
    refine S_mv rfl ?_
    refine S_mv rfl ?_
    refine S_mv rfl ?_
    first | refine S_ixn T.el49 rfl rfl (by omega) ?_ | refine S_ix1 T.el49 rfl rfl (by omega) (by omega) ?_ | refine S_ix T.el49 rfl rfl (by omega) (by omega) ?_
    refine S_ldK T.ag3 rfl (fun K' hK' => ?_)
    simp (disch := omega) only [hc2.at, oP_some, Nat.add_zero]
    refine hK' _ ?_; clear hK' K'
    first | refine S_neg rfl (by omega) (by omega) ?_ | refine S_un rfl rfl ?_
    refine S_bs T.ei49 rfl (by decide) (by decide) (T.bs49_1_0 _) ?_
    refine S_appx (lo := h.size) T.ei49 T.ni49 T.us49 rfl rfl rfl (OwnR.ext hoo (Ext.push (fun _ => False) _ _) (fun _ _ f => f)) (by simp; omega) (cellsH_new _ _ _) rfl (by omega) (by decide) (by decide) rfl (fun a4 c4 h4 ho4 hE4x hb4x => ?_)
    have hE4 : Ext (fun z => blkA oa = some z) hk h4 := (Ext.push _ _ _).trans hE4x
    have hb4 := new_blk (h := hk) hb4x (by simp)
    have hoo4 : OwnR h.size h4 a4 (on ++ [-(c.getD i 0)]).length c4 (ints (on ++ [-(c.getD i 0)])) 3 1 := by rw [ints_snoc, List.length_append]; exact ho4
    refine S_as rfl ?_
    refine S_nilk [0, 1, 5, 6] (by simp only [proj, lk, reduceIte, Nat.reduceEqDiff]; rfl) ?_
    refine hK8 _ _ ?_; clear hK8
    refine V_reg T.mix (by kernel_rfl) ?_
    refine S_mv rfl ?_
    first | refine S_add rfl rfl (by omega) (by omega) ?_ | refine S_bin rfl rfl rfl ?_
    refine S_as rfl ?_
    refine S_nilk [0, 1, 5, 6] (by simp only [proj, lk, reduceIte, Nat.reduceEqDiff]; rfl) ?_
    exact hK5 _ _ ⟨_, by omega, i + 1, h4, a4, c4, on ++ [-(c.getD i 0)], by omega, (by rw [getD_snoc _ _ (by omega), List.map_append, ← hon]; rfl), hoo4, hE.step hE4 (fun z hz e => by have h9 := OwnR.blk2 hoo e; omega), rfl, by simp, rfl⟩
  · skip
    have hie : i = c.length := by omega
    rw [hie, List.take_length] at hon
    have hmo : ∀ x, x ∈ on ↔ deny c x := fun x => by rw [hon]; unfold deny; rw [List.mem_map]; exact ⟨fun ⟨y, h1, h2⟩ => by rw [← h2]; simpa using h1, fun e => ⟨-x, e, by omega⟩⟩
    have hdn : (fun x => x ∈ on) = deny c := funext fun x => propext (hmo x)
    refine V_exitk [0, 5] rfl (by simp only [proj, lk, reduceIte, Nat.reduceEqDiff]; rfl) ?_
    refine hK3 _ _ ?_; clear hK3
    refine V_sr T.mix (by kernel_rfl) (fun K9 hK9 => ?_)
    refine S_mv rfl ?_
    refine S_mv rfl ?_
    refine S_call T.hb111 rfl ?_
    refine FC.mono (closure_spec hk la lc lo hi_ cs (hlv.ext hE (fun z _ _ f => f)) hcs hll oa oc on (own0 hoo) (by omega) (fun x hx => by have h9 := hn.1 _ ((hmo x).1 hx); unfold gd at h9 ⊢; omega) (fun x hx hx2 => by have h8 := (hmo x).1 hx; have h9 := (hmo _).1 hx2; unfold deny at h8 h9; have h7 := hn.1 _ h8; unfold gd at h7; have h6 := hn.inj h8 h9 (by omega); omega)) ?_
    rintro v' h2 ⟨xa, xn, xc, g, rfl, hg, hE2⟩
    refine S_mv rfl ?_
    refine S_ex rfl rfl ?_
    refine S_ex rfl rfl ?_
    refine S_as rfl ?_
    refine S_as rfl ?_
    refine S_nil (hK9 _ _ (V_keep [8] (by simp only [proj, lk, reduceIte, Nat.reduceEqDiff]; rfl) ?_)); clear hK9
    refine V_sr T.mix (by kernel_rfl) (fun K10 hK10 => ?_)
    refine S_mv rfl ?_
    refine S_as rfl ?_
    refine S_nil (hK10 _ _ (V_keep [4] (by simp only [proj, lk, reduceIte, Nat.reduceEqDiff]; rfl) ?_)); clear hK10
    refine V_ret ?_
    refine hR _ _ (ret1 rfl rfl ?_)
    exact ⟨g, rfl, by rw [← hdn]; exact hg, hE.trans hE2⟩
end Go.Proofs.Qxb6500401aGreat.ChkW
