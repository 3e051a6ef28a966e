import Derived.Test.Qxb6500401aGreatSm
set_option linter.unusedVariables false
set_option linter.unusedSimpArgs false
namespace Go.Proofs.Qxb6500401aGreat
open Go.Eng Go.Trl Go.Chk Go.Wat
/-- a row of rows of numbers: all its blocks lie from lo to below hi -/
def LV (lo hi : Nat) (h : Heap) (a : Option Addr) (cap : Nat) (L : List (List Int)) : Prop := ∃ vs, OwnR lo h a L.length cap vs 49 1 ∧ (∀ z, blkA a = some z → z < hi) ∧ hi ≤ h.size ∧ ∀ i, i < L.length → ∃ ai ci, vs[i]? = some (.slice ai (L.getD i []).length ci) ∧ IL h ai ci (L.getD i []) ∧ ∀ z, blkA ai = some z → lo ≤ z ∧ z < hi ∧ blkA a ≠ some z
theorem LV.nil (lo hi : Nat) (h : Heap) (hh : hi ≤ h.size) : LV lo hi h none 0 [] := ⟨[], OwnR.nil _ _ _ _, by simp [blkA], hh, by simp⟩
theorem LV.ext {lo hi : Nat} {h h' : Heap} {a : Option Addr} {cap : Nat} {L : List (List Int)} {S : Nat → Prop} (v : LV lo hi h a cap L) (he : Ext S h h') (hs : ∀ z, lo ≤ z → z < hi → ¬ S z) : LV lo hi h' a cap L := by
  obtain ⟨vs, h1, h2, h3, h4⟩ := v
  refine ⟨vs, h1.ext he (fun z e => hs z (OwnR.blk2 h1 (by rw [e]; rfl)).1 (h2 z (by rw [e]; rfl))), h2, Nat.le_trans h3 he.1, fun i hi => ?_⟩
  obtain ⟨ai, ci, g1, g2, g3⟩ := h4 i hi
  exact ⟨ai, ci, g1, g2.ext he (fun z e => hs z (g3 z e).1 (g3 z e).2.1), g3⟩
theorem LV.wid {lo hi lo' hi' : Nat} {h : Heap} {a : Option Addr} {cap : Nat} {L : List (List Int)} (v : LV lo hi h a cap L) (h1 : lo' ≤ lo) (h2 : hi ≤ hi') (h3 : hi' ≤ h.size) : LV lo' hi' h a cap L := by
  obtain ⟨vs, g1, g2, g3, g4⟩ := v
  refine ⟨vs, ?_, fun z e => Nat.lt_of_lt_of_le (g2 z e) h2, h3, fun i hi => ?_⟩
  · rcases g1 with x | ⟨b, cs, x1, x2, x3⟩
    · exact .inl x
    · exact .inr ⟨b, cs, x1, by omega, x3⟩
  · obtain ⟨ai, ci, k1, k2, k3⟩ := g4 i hi
    exact ⟨ai, ci, k1, k2, fun z e => by have := k3 z e; exact ⟨by omega, by omega, this.2.2⟩⟩
theorem LV.get {lo hi : Nat} {h : Heap} {a : Option Addr} {cap : Nat} {L : List (List Int)} (v : LV lo hi h a cap L) (hl : 0 < L.length) : ∃ bb, a = some ⟨bb, 0, none⟩ ∧ lo ≤ bb ∧ bb < hi ∧ ∀ i, i < L.length → ∃ ai ci, cellH h ⟨bb, i, none⟩ = some (.slice ai (L.getD i []).length ci) ∧ IL h ai ci (L.getD i []) ∧ ∀ z, blkA ai = some z → lo ≤ z ∧ z < hi ∧ bb ≠ z := by
  obtain ⟨vs, h1, h2, h3, h4⟩ := v
  have hlen := h1.len
  obtain ⟨bb, e, g1, g2, g3, g4⟩ := OwnR.some h1 hl
  refine ⟨bb, e, g1, h2 bb (by rw [e]; rfl), fun i hi => ?_⟩
  obtain ⟨ai, ci, k1, k2, k3⟩ := h4 i hi
  refine ⟨ai, ci, by rw [g3 i (by omega)]; exact k1, k2, fun z ez => ?_⟩
  have := k3 z ez
  exact ⟨this.1, this.2.1, fun x => this.2.2 (by rw [e, x]; rfl)⟩
theorem LV.own {lo hi : Nat} {h : Heap} {a : Option Addr} {cap : Nat} {L : List (List Int)} (v : LV lo hi h a cap L) : ∃ vs, OwnR lo h a L.length cap vs 49 1 := by obtain ⟨vs, h1, _⟩ := v; exact ⟨vs, h1⟩
theorem LV.le {lo hi : Nat} {h : Heap} {a : Option Addr} {cap : Nat} {L : List (List Int)} (v : LV lo hi h a cap L) : hi ≤ h.size := by obtain ⟨vs, h1, h2, h3, _⟩ := v; exact h3
theorem LV.len {lo hi : Nat} {h : Heap} {a : Option Addr} {cap : Nat} {L : List (List Int)} (v : LV lo hi h a cap L) : L.length ≤ cap := by obtain ⟨vs, h1, _⟩ := v; exact h1.len.2
/-- one row more: the new row's own cells lie in h -/
theorem LV.snoc {lo hi : Nat} {h h' : Heap} {a a' : Option Addr} {cap cap' : Nat} {L : List (List Int)} {vs : List Value} {c : List Int} {ac : Option Addr} {cc : Nat}
    (v : LV lo hi h a cap L) (hvs : OwnR lo h a L.length cap vs 49 1) (ho : OwnR lo h' a' (L.length + 1) cap' (vs ++ [.slice ac c.length cc]) 49 1) (he : Ext (fun z => blkA a = some z) h h') (hb : ∀ z, blkA a' = some z → blkA a = some z ∨ h.size ≤ z)
    (hc : IL h ac cc c) (hcl : ∀ z, blkA ac = some z → lo ≤ z ∧ blkA a ≠ some z) : LV lo h'.size h' a' cap' (L ++ [c]) := by
  obtain ⟨vs2, h1, h2, h3, h4⟩ := v
  have hL := h1.len; have hL2 := hvs.len
  have hlt : ∀ z, blkA a' = some z → z < h'.size := fun z e => (OwnR.blk2 ho e).2
  refine ⟨_, by rw [List.length_append]; exact ho, hlt, Nat.le_refl _, fun i hi => ?_⟩
  rcases Nat.lt_or_ge i L.length with hlt2 | hge
  · obtain ⟨ai, ci, k1, k2, k3⟩ := h4 i hlt2
    have e1 : (L ++ [c]).getD i [] = L.getD i [] := by simp [List.getD_eq_getElem?_getD, List.getElem?_append, hlt2]
    rw [e1]
    have e2 : vs[i]? = vs2[i]? := by
      obtain ⟨b1, q1, _, _, q2, _⟩ := OwnR.some hvs (by omega)
      obtain ⟨b2, q3, _, _, q4, _⟩ := OwnR.some h1 (by omega)
      have : b1 = b2 := by rw [q1] at q3; injection q3 with q3; injection q3
      subst this
      rw [← q2 i (by omega), ← q4 i (by omega)]
    refine ⟨ai, ci, ?_, k2.ext he (fun z e x => (k3 z e).2.2 x), fun z e => ⟨(k3 z e).1, by have := k2.lt e; have := he.1; omega, fun x => ?_⟩⟩
    · rw [List.getElem?_append_left (by omega), e2]; exact k1
    · rcases hb z x with y | y
      · exact (k3 z e).2.2 y
      · have := k2.lt e; omega
  · have hi2 : i = L.length := by simp at hi; omega
    subst hi2
    have e1 : (L ++ [c]).getD L.length [] = c := by simp [List.getD_eq_getElem?_getD]
    rw [e1]
    refine ⟨ac, cc, ?_, hc.ext he (fun z e x => (hcl z e).2 x), fun z e => ⟨(hcl z e).1, by have := hc.lt e; have := he.1; omega, fun x => ?_⟩⟩
    · rw [List.getElem?_append_right (by omega)]; simp [show L.length - vs.length = 0 by omega]
    · rcases hb z x with y | y
      · exact (hcl z e).2 y
      · have := hc.lt e; omega
theorem new_blk2 {h : Heap} {a a1 : Option Addr} {n : Nat} (hb : blkA a1 = blkA a ∨ blkA a1 = some n) (hn : h.size ≤ n) : ∀ z, blkA a1 = some z → blkA a = some z ∨ h.size ≤ z := fun z e => by
  rcases hb with x | x
  · exact .inl (x ▸ e)
  · rw [x] at e; cases e; exact .inr hn
/-- the value of a literal -/
def ValR (on : List Int) (x v : Int) : Prop := (v = 1 ∧ x ∈ on) ∨ (v = -1 ∧ -x ∈ on) ∨ (v = 0 ∧ x ∉ on ∧ -x ∉ on)
theorem take_none {on : List Int} {x : Int} {i : Nat} (hi : i < on.length) (h : ∀ y ∈ on.take i, y ≠ x ∧ y ≠ -x) (h1 : ¬ on.getD i 0 = x) (h2 : ¬ on.getD i 0 = -x) : ∀ y ∈ on.take (i + 1), y ≠ x ∧ y ≠ -x := fun y hy => by
  rcases (mem_take_snoc hi).1 hy with q | q
  · exact h y q
  · rw [q]; exact ⟨h1, h2⟩
theorem val_none {on : List Int} {x : Int} {i : Nat} (hi : i = on.length) (h : ∀ y ∈ on.take i, y ≠ x ∧ y ≠ -x) : ValR on x 0 := by
  rw [hi, List.take_length] at h
  exact .inr (.inr ⟨rfl, fun e => (h _ e).1 rfl, fun e => (h _ e).2 rfl⟩)
/-- the first k literals -/
def StP (c on : List Int) (k n : Nat) (u : Int) : Prop := (n = 0 ∧ ∀ y ∈ c.take k, -y ∈ on) ∨ (n = 1 ∧ u ∈ c.take k ∧ u ∉ on ∧ -u ∉ on ∧ ∀ y ∈ c.take k, y ≠ u → -y ∈ on) ∨ (2 ≤ n ∧ ∃ x ∈ c.take k, ∃ y ∈ c.take k, x ≠ y ∧ -x ∉ on ∧ -y ∉ on)
theorem StP.down {c on : List Int} {k n : Nat} {u : Int} (h : StP c on k n u) (hk : k < c.length) (hf : -(c.getD k 0) ∈ on) : StP c on (k + 1) n u := by
  have hm : ∀ y, y ∈ c.take (k + 1) ↔ y ∈ c.take k ∨ y = c.getD k 0 := fun y => mem_take_snoc hk
  rcases h with ⟨h1, h2⟩ | ⟨h1, h2, h3, h4, h5⟩ | ⟨h1, x, hx, y, hy, h2⟩
  · exact .inl ⟨h1, fun y hy => by rcases (hm y).1 hy with q | q; exact h2 y q; rw [q]; exact hf⟩
  · exact .inr (.inl ⟨h1, (hm u).2 (.inl h2), h3, h4, fun y hy e => by rcases (hm y).1 hy with q | q; exact h5 y q e; rw [q]; exact hf⟩)
  · exact .inr (.inr ⟨h1, x, (hm x).2 (.inl hx), y, (hm y).2 (.inl hy), h2⟩)
theorem StP.open {c on : List Int} {k n : Nat} {u : Int} (h : StP c on k n u) (hn : c.Nodup) (hk : k < c.length) (h1 : c.getD k 0 ∉ on) (h2 : -(c.getD k 0) ∉ on) : StP c on (k + 1) (n + 1) (c.getD k 0) := by
  have hm : ∀ y, y ∈ c.take (k + 1) ↔ y ∈ c.take k ∨ y = c.getD k 0 := fun y => mem_take_snoc hk
  have hne : ∀ y ∈ c.take k, y ≠ c.getD k 0 := fun y hy e => by
    obtain ⟨i, hi, hie⟩ := List.getElem_of_mem hy
    rw [List.length_take] at hi
    rw [List.getElem_take] at hie
    have he : c.getD k 0 = c[k] := by simp [hk]
    rw [e, he] at hie
    have := (List.getElem_inj hn).1 hie
    omega
  rcases h with ⟨g1, g2⟩ | ⟨g1, g2, g3, g4, g5⟩ | ⟨g1, x, hx, y, hy, g2⟩
  · exact .inr (.inl ⟨by omega, (hm _).2 (.inr rfl), h1, h2, fun y hy e => by rcases (hm y).1 hy with q | q; exact g2 y q; exact absurd q e⟩)
  · exact .inr (.inr ⟨by omega, u, (hm u).2 (.inl g2), _, (hm _).2 (.inr rfl), hne u g2, g4, h2⟩)
  · exact .inr (.inr ⟨by omega, x, (hm x).2 (.inl hx), y, (hm y).2 (.inl hy), g2⟩)
theorem StP.fin {c on : List Int} {n : Nat} {u : Int} (h : StP c on c.length n u) : StR c on (if n = 0 then -1 else if n = 1 then 0 else 2) (if n = 1 then u else 0) := by
  unfold StP at h
  rw [List.take_length] at h
  rcases h with ⟨h1, h2⟩ | ⟨h1, h2⟩ | ⟨h1, h2⟩
  · subst h1; exact .inr (.inl ⟨rfl, rfl, h2⟩)
  · subst h1; exact .inr (.inr (.inl ⟨rfl, h2⟩))
  · rw [if_neg (by omega), if_neg (by omega)]; rw [if_neg (by omega)]; exact .inr (.inr (.inr ⟨rfl, rfl, h2⟩))
/-- where a closure stands -/
structure Clo1 (cs : List (List Int)) (on out : List Int) (r : Nat) (g : Bool) (i : Nat) : Prop where
  gd : ∀ x ∈ out, Chk.gd x
  con : Con (· ∈ out)
  snd : Snd cs (· ∈ on) (· ∈ out)
  onn : ∀ x ∈ on, x ∈ out
  len : out.length ≤ on.length + vcnt (pM out) (nM out)
  up : g = true → r + 1 ≤ vcnt (pM out) (nM out)
  no : g = false → r ≤ vcnt (pM out) (nM out) ∧ ∀ c ∈ cs.take i, Done (· ∈ out) c
theorem mem_rtake {cs : List (List Int)} {i : Nat} {c : List Int} (h : i < cs.length) : c ∈ cs.take (i + 1) ↔ c ∈ cs.take i ∨ c = cs.getD i [] := by
  rw [List.take_add_one, List.mem_append, List.getD_eq_getElem?_getD, List.getElem?_eq_getElem h]; simp only [Option.toList_some, List.mem_singleton, Option.getD_some]
theorem getD_mem {cs : List (List Int)} {i : Nat} (h : i < cs.length) : cs.getD i [] ∈ cs := by
  rw [List.getD_eq_getElem?_getD, List.getElem?_eq_getElem h]; exact List.getElem_mem h
theorem Clo1.skip {cs : List (List Int)} {on out : List Int} {r : Nat} {g : Bool} {i : Nat} (h : Clo1 cs on out r g i) (hi : i < cs.length) (hd : Done (· ∈ out) (cs.getD i [])) : Clo1 cs on out r g (i + 1) :=
  ⟨h.gd, h.con, h.snd, h.onn, h.len, h.up, fun e => ⟨(h.no e).1, fun c hc => by rcases (mem_rtake hi).1 hc with q | q; exact (h.no e).2 c q; rw [q]; exact hd⟩⟩
theorem Clo1.unit {cs : List (List Int)} {on out : List Int} {r : Nat} {g : Bool} {i : Nat} {u : Int} (h : Clo1 cs on out r g i) (hi : i < cs.length) (hn : Nrm (cs.getD i [])) (hu : u ∈ cs.getD i []) (h1 : u ∉ out) (h2 : -u ∉ out) (h3 : ∀ y ∈ cs.getD i [], y ≠ u → -y ∈ out) : Clo1 cs on (out ++ [u]) r true (i + 1) := by
  have hg : Chk.gd u := hn.1 u hu
  have hgd : ∀ x ∈ out ++ [u], Chk.gd x := fun x hx => by rcases List.mem_append.1 hx with q | q; exact h.gd x q; rw [List.mem_singleton.1 q]; exact hg
  have hv : vcnt (pM out) (nM out) < vcnt (pM (out ++ [u])) (nM (out ++ [u])) := by
    have hg2 := hg
    unfold Chk.gd at hg2
    refine vcnt_up (v := u.natAbs - 1) (fun i hb => ?_) (fun i hb => ?_) (by omega) ?_ ?_
    · rw [pM_snoc]; split
      · rw [Nat.testBit_or, hb]; rfl
      · exact hb
    · rw [nM_snoc]; split
      · exact hb
      · rw [Nat.testBit_or, hb]; rfl
    · rw [Nat.testBit_or, Bool.or_eq_false_iff]
      have ep : ((u.natAbs - 1 : Nat) : Int) + 1 = u.natAbs := by omega
      constructor
      · rw [Bool.eq_false_iff]; intro e; have := (pM_bit h.gd).1 e; rw [ep] at this
        rcases Int.natAbs_eq u with q | q
        · rw [← q] at this; exact h1 this
        · rw [show (u.natAbs : Int) = -u by omega] at this; exact h2 this
      · rw [Bool.eq_false_iff]; intro e; have := (nM_bit h.gd).1 e; rw [ep] at this
        rcases Int.natAbs_eq u with q | q
        · rw [show -(u.natAbs : Int) = -u by omega] at this; exact h2 this
        · rw [show -(u.natAbs : Int) = u by omega] at this; exact h1 this
    · rw [Nat.testBit_or, pM_snoc, nM_snoc]
      split <;> simp [Nat.testBit_or, Nat.testBit_two_pow]
  refine ⟨hgd, ?_, ?_, fun x hx => List.mem_append.2 (.inl (h.onn x hx)), ?_, fun _ => ?_, fun e => by cases e⟩
  · intro x hx hx2
    have hg0 := hg.1
    rcases List.mem_append.1 hx with q | q <;> rcases List.mem_append.1 hx2 with q2 | q2
    · exact h.con x q q2
    · have := List.mem_singleton.1 q2; rw [show x = -u by omega] at q; exact h2 q
    · have := List.mem_singleton.1 q; rw [this] at q2; exact h2 q2
    · have := List.mem_singleton.1 q; have := List.mem_singleton.1 q2; omega
  · have := snd_unit h.snd (getD_mem hi) hu h3
    intro S a1 a2 a3 x hx
    refine this S a1 a2 a3 x ?_
    rcases List.mem_append.1 hx with q | q
    · exact .inl q
    · exact .inr (List.mem_singleton.1 q)
  · rw [List.length_append]; simp only [List.length_singleton]; have := h.len; omega
  · cases g
    · have := (h.no rfl).1; omega
    · have := h.up rfl; omega
theorem Clo1.next {cs : List (List Int)} {on out : List Int} {r : Nat} {i : Nat} (h : Clo1 cs on out r true i) : Clo1 cs on out (r + 1) false 0 :=
  ⟨h.gd, h.con, h.snd, h.onn, h.len, fun e => (by cases e), fun _ => ⟨h.up rfl, by simp⟩⟩
theorem Clo1.fix {cs : List (List Int)} {on out : List Int} {r : Nat} {i : Nat} (h : Clo1 cs on out r false i) (hi : i = cs.length) : Fix cs (· ∈ on) := by
  have h2 := (h.no rfl).2
  rw [hi, List.take_length] at h2
  exact ⟨(· ∈ out), h.onn, h.con, h2⟩
theorem Clo1.fresh {cs : List (List Int)} {on : List Int} {r : Nat} (hg : ∀ x ∈ on, Chk.gd x) (hc : Con (· ∈ on)) (hr : r = 0) : Clo1 cs on on r false 0 :=
  ⟨hg, hc, snd_refl _ _, fun _ h => h, by omega, fun e => (by cases e), fun _ => ⟨by omega, by simp⟩⟩

theorem nodup_snoc {out : List Int} {u : Int} (h : out.Nodup) (hu : u ∉ out) : (out ++ [u]).Nodup := by
  rw [List.nodup_append]; exact ⟨h, by simp, fun a ha b hb e => by rw [List.mem_singleton] at hb; rw [e, hb] at ha; exact hu ha⟩
set_option maxHeartbeats 400000 in
theorem val_spec (h : Heap) (x : Int) (hx : -12 ≤ x ∧ x ≤ 12) (a : Option Addr) (cap : Nat) (xs : List Int) (ho : IL h a cap xs) (hl : xs.length ≤ 1099511627776) :
    FC Tryz.prog 133 (#[.int .i64 x, .slice a xs.length cap] : Array Value) h fun rv h' => ∃ v : Int, rv = .int .i64 v ∧ ValR xs x v ∧ h = h' := by
  refine FC_of [(0, .int .i64 x), (1, .slice a xs.length cap)] Tryz.func133 rfl Tryz.ntmps133 (by simp) rfl (fun R hR => ?_)
  refine V_sr T.mix (by kernel_rfl) (fun K1 hK1 => ?_)
  refine S_as rfl ?_
  refine S_nil (hK1 _ _ (V_keep [0, 1] (by simp only [proj, lk, reduceIte, Nat.reduceEqDiff]; rfl) ?_)); clear hK1
  refine V_seq (fun K2 hK2 => ?_)
  refine V_sr T.mix (by kernel_rfl) (fun K3 hK3 => ?_)
  refine S_as rfl ?_
  refine S_nil (hK3 _ _ (V_keep [0, 1, 5] (by simp only [proj, lk, reduceIte, Nat.reduceEqDiff]; rfl) ?_)); clear hK3
  refine V_block ?_
  refine V_loop (fun m l h' => ∃ (i : Nat), (i ≤ xs.length) ∧ (∀ y ∈ xs.take i, y ≠ x ∧ y ≠ -x) ∧ m = xs.length - i ∧ l = [(0, .int .i64 x), (1, .slice a xs.length cap), (5, .int .i64 (i : Int))] ∧ h = h') _ ⟨0, by omega, by simp, rfl, rfl, rfl⟩ ?_
  rintro m l h' ⟨i, hi, hn, rfl, rfl, rfl⟩ K4 hK4
  refine V_seq (fun K5 hK5 => ?_)
  refine V_sr T.mix (by kernel_rfl) (fun K6 hK6 => ?_)
  refine S_mv rfl ?_
  refine S_mv rfl ?_
  refine S_lenl T.el49 rfl ?_
  refine S_bin rfl rfl rfl ?_
  refine S_nil (hK6 _ _ (V_keep [0, 1, 5, 9] (by simp only [proj, lk, reduceIte, Nat.reduceEqDiff]; rfl) ?_)); clear hK6
  refine V_condp rfl (fun c79 => ?_) (fun c79 => ?_)
  · skip
    obtain ⟨bb, rfl, _, _, _⟩ := ho.get (by omega)
    refine V_skipk [0, 1, 5] (by simp only [proj, lk, reduceIte, Nat.reduceEqDiff]; rfl) ?_
    refine hK5 _ _ ?_; clear hK5
    refine V_seq (fun K7 hK7 => ?_)
    refine V_block ?_
    refine V_seq (fun K8 hK8 => ?_)
    refine V_sr T.mix (by kernel_rfl) (fun K9 hK9 => ?_)
    refine S_mv rfl ?_
    refine S_mv rfl ?_
    first | refine S_ixn T.el49 rfl rfl (by omega) ?_ | refine S_ix1 T.el49 rfl rfl (by omega) (by omega) ?_ | refine S_ix T.el49 rfl rfl (by omega) (by omega) ?_
    refine S_ldK T.ag3 rfl (fun K' hK' => ?_)
    simp (disch := omega) only [ho.at, oP_some, Nat.add_zero]
    refine hK' _ ?_; clear hK' K'
    refine S_mv rfl ?_
    refine S_bin rfl rfl rfl ?_
    refine S_nil (hK9 _ _ (V_keep [0, 1, 5, 17] (by simp only [proj, lk, reduceIte, Nat.reduceEqDiff]; rfl) ?_)); clear hK9
    refine V_condp rfl (fun c80 => ?_) (fun c80 => ?_)
    · skip
      refine V_sr T.mix (by kernel_rfl) (fun K10 hK10 => ?_)
      refine S_as rfl ?_
      refine S_nil (hK10 _ _ (V_keep [4] (by simp only [proj, lk, reduceIte, Nat.reduceEqDiff]; rfl) ?_)); clear hK10
      refine V_ret ?_
      refine hR _ _ (ret1 rfl rfl ?_)
      exact ⟨_, rfl, .inl ⟨rfl, by rw [← c80]; exact mem_at (by omega)⟩, rfl⟩
    · skip
      refine V_skipk [0, 1, 5] (by simp only [proj, lk, reduceIte, Nat.reduceEqDiff]; rfl) ?_
      refine hK8 _ _ ?_; clear hK8
      refine V_sr T.mix (by kernel_rfl) (fun K11 hK11 => ?_)
      refine S_mv rfl ?_
      refine S_mv rfl ?_
      first | refine S_ixn T.el49 rfl rfl (by omega) ?_ | refine S_ix1 T.el49 rfl rfl (by omega) (by omega) ?_ | refine S_ix T.el49 rfl rfl (by omega) (by omega) ?_
      refine S_ldK T.ag3 rfl (fun K' hK' => ?_)
      simp (disch := omega) only [ho.at, oP_some, Nat.add_zero]
      refine hK' _ ?_; clear hK' K'
      refine S_mv rfl ?_
      first | refine S_neg rfl (by omega) (by omega) ?_ | refine S_un rfl rfl ?_
      refine S_bin rfl rfl rfl ?_
      refine S_nil (hK11 _ _ (V_keep [0, 1, 5, 24] (by simp only [proj, lk, reduceIte, Nat.reduceEqDiff]; rfl) ?_)); clear hK11
      refine V_condp rfl (fun c83 => ?_) (fun c83 => ?_)
      · skip
        refine V_sr T.mix (by kernel_rfl) (fun K12 hK12 => ?_)
        refine S_as rfl ?_
        refine S_nil (hK12 _ _ (V_keep [4] (by simp only [proj, lk, reduceIte, Nat.reduceEqDiff]; rfl) ?_)); clear hK12
        refine V_ret ?_
        refine hR _ _ (ret1 rfl rfl ?_)
        exact ⟨_, rfl, .inr (.inl ⟨rfl, by rw [← c83]; exact mem_at (by omega)⟩), rfl⟩
      · skip
        refine V_skipk [0, 1, 5] (by simp only [proj, lk, reduceIte, Nat.reduceEqDiff]; rfl) ?_
        refine hK7 _ _ ?_; clear hK7
        refine V_reg T.mix (by kernel_rfl) ?_
        refine S_mv rfl ?_
        first | refine S_add rfl rfl (by omega) (by omega) ?_ | refine S_bin rfl rfl rfl ?_
        refine S_as rfl ?_
        refine S_nilk [0, 1, 5] (by simp only [proj, lk, reduceIte, Nat.reduceEqDiff]; rfl) ?_
        exact hK4 _ _ ⟨_, by omega, i + 1, by omega, take_none (by omega) hn c80 c83, rfl, rfl, rfl⟩
  · skip
    refine V_exitk [] rfl (by simp only [proj, lk, reduceIte, Nat.reduceEqDiff]; rfl) ?_
    refine hK2 _ _ ?_; clear hK2
    refine V_sr T.mix (by kernel_rfl) (fun K13 hK13 => ?_)
    refine S_as rfl ?_
    refine S_nil (hK13 _ _ (V_keep [4] (by simp only [proj, lk, reduceIte, Nat.reduceEqDiff]; rfl) ?_)); clear hK13
    refine V_ret ?_
    refine hR _ _ (ret1 rfl rfl ?_)
    exact ⟨_, rfl, val_none (by omega) hn, rfl⟩
set_option maxHeartbeats 400000 in
theorem state_spec (h : Heap) (ac : Option Addr) (cc : Nat) (c : List Int) (hc : IL h ac cc c) (hn : Nrm c) (ao : Option Addr) (oc : Nat) (on : List Int) (ho : IL h ao oc on) (hlo : on.length ≤ 1099511627776) (hcon : Con (· ∈ on)) :
    FC Tryz.prog 135 (#[.slice ac c.length cc, .slice ao on.length oc] : Array Value) h fun rv h' => ∃ s u : Int, rv = .tuple #[.int .i64 s, .int .i64 u] ∧ StR c on s u ∧ h = h' := by
  have hcl := hn.len
  refine FC_of [(0, .slice ac c.length cc), (1, .slice ao on.length oc)] Tryz.func135 rfl Tryz.ntmps135 (by simp) rfl (fun R hR => ?_)
  refine V_sr T.mix (by kernel_rfl) (fun K1 hK1 => ?_)
  refine S_as rfl ?_
  refine S_as rfl ?_
  refine S_nil (hK1 _ _ (V_keep [0, 1] (by simp only [proj, lk, reduceIte, Nat.reduceEqDiff]; rfl) ?_)); clear hK1
  refine V_sr T.mix (by kernel_rfl) (fun K2 hK2 => ?_)
  refine S_as rfl ?_
  refine S_nil (hK2 _ _ (V_keep [0, 1, 6] (by simp only [proj, lk, reduceIte, Nat.reduceEqDiff]; rfl) ?_)); clear hK2
  refine V_sr T.mix (by kernel_rfl) (fun K3 hK3 => ?_)
  refine S_as rfl ?_
  refine S_nil (hK3 _ _ (V_keep [0, 1, 6, 7] (by simp only [proj, lk, reduceIte, Nat.reduceEqDiff]; rfl) ?_)); clear hK3
  refine V_seq (fun K4 hK4 => ?_)
  refine V_sr T.mix (by kernel_rfl) (fun K5 hK5 => ?_)
  refine S_as rfl ?_
  refine S_nil (hK5 _ _ (V_keep [0, 1, 6, 7, 8] (by simp only [proj, lk, reduceIte, Nat.reduceEqDiff]; rfl) ?_)); clear hK5
  refine V_block ?_
  refine V_loop (fun m l h' => ∃ (i : Nat) (n : Nat) (u : Int), (i ≤ c.length) ∧ (StP c on i n u) ∧ (n ≤ i) ∧ m = c.length - i ∧ l = [(0, .slice ac c.length cc), (1, .slice ao on.length oc), (6, .int .i64 (n : Int)), (7, .int .i64 u), (8, .int .i64 (i : Int))] ∧ h = h') _ ⟨0, 0, 0, by omega, .inl ⟨rfl, by simp⟩, by omega, rfl, rfl, rfl⟩ ?_
  rintro m l h' ⟨i, n, u, hi, hst, hni, rfl, rfl, rfl⟩ K6 hK6
  refine V_seq (fun K7 hK7 => ?_)
  refine V_sr T.mix (by kernel_rfl) (fun K8 hK8 => ?_)
  refine S_mv rfl ?_
  refine S_mv rfl ?_
  refine S_lenl T.el49 rfl ?_
  refine S_bin rfl rfl rfl ?_
  refine S_nil (hK8 _ _ (V_keep [0, 1, 6, 7, 8, 13] (by simp only [proj, lk, reduceIte, Nat.reduceEqDiff]; rfl) ?_)); clear hK8
  refine V_condp rfl (fun c94 => ?_) (fun c94 => ?_)
  · skip
    obtain ⟨bb, rfl, _, _, _⟩ := hc.get (by omega)
    have hgd := gd_getD hn.1 (show i < c.length by omega)
    unfold gd at hgd
    refine V_skipk [0, 1, 6, 7, 8] (by simp only [proj, lk, reduceIte, Nat.reduceEqDiff]; rfl) ?_
    refine hK7 _ _ ?_; clear hK7
    refine V_seq (fun K9 hK9 => ?_)
    refine V_block ?_
    refine V_sr T.mix (by kernel_rfl) (fun K10 hK10 => ?_)
    refine S_mv rfl ?_
    refine S_mv rfl ?_
    first | refine S_ixn T.el49 rfl rfl (by omega) ?_ | refine S_ix1 T.el49 rfl rfl (by omega) (by omega) ?_ | refine S_ix T.el49 rfl rfl (by omega) (by omega) ?_
    refine S_ldK T.ag3 rfl (fun K' hK' => ?_)
    simp (disch := omega) only [hc.at, oP_some, Nat.add_zero]
    refine hK' _ ?_; clear hK' K'
    refine S_mv rfl ?_
    refine S_call T.hb133 rfl ?_
    refine FC.mono (val_spec h (c.getD i 0) (by omega) ao oc on ho hlo) ?_
    rintro v' h' ⟨v, rfl, hv, rfl⟩
    refine S_as rfl ?_
    refine S_nil (hK10 _ _ (V_keep [0, 1, 6, 7, 8, 9] (by simp only [proj, lk, reduceIte, Nat.reduceEqDiff]; rfl) ?_)); clear hK10
    refine V_seq (fun K11 hK11 => ?_)
    refine V_sr T.mix (by kernel_rfl) (fun K12 hK12 => ?_)
    refine S_mv rfl ?_
    refine S_bin rfl rfl rfl ?_
    refine S_nil (hK12 _ _ (V_keep [0, 1, 6, 7, 8, 9, 23] (by simp only [proj, lk, reduceIte, Nat.reduceEqDiff]; rfl) ?_)); clear hK12
    refine V_condp rfl (fun c96 => ?_) (fun c96 => ?_)
    · skip
      refine V_sr T.mix (by kernel_rfl) (fun K13 hK13 => ?_)
      refine S_as rfl ?_
      refine S_as rfl ?_
      refine S_nil (hK13 _ _ (V_keep [4, 5] (by simp only [proj, lk, reduceIte, Nat.reduceEqDiff]; rfl) ?_)); clear hK13
      refine V_ret ?_
      refine hR _ _ (ret2 rfl rfl rfl ?_)
      exact ⟨_, _, rfl, .inl ⟨rfl, rfl, c.getD i 0, mem_at (by omega), by rcases hv with q | q | q; (exact q.2); (omega); (omega)⟩, rfl⟩
    · skip
      refine V_skipk [0, 1, 6, 7, 8, 9] (by simp only [proj, lk, reduceIte, Nat.reduceEqDiff]; rfl) ?_
      refine hK11 _ _ ?_; clear hK11
      refine V_sr T.mix (by kernel_rfl) (fun K14 hK14 => ?_)
      refine S_mv rfl ?_
      refine S_bin rfl rfl rfl ?_
      refine S_nil (hK14 _ _ (V_keep [0, 1, 6, 7, 8, 25] (by simp only [proj, lk, reduceIte, Nat.reduceEqDiff]; rfl) ?_)); clear hK14
      refine V_condp rfl (fun c99 => ?_) (fun c99 => ?_)
      · skip
        have hop : c.getD i 0 ∉ on ∧ -(c.getD i 0) ∉ on := by rcases hv with q | q | q; (omega); (omega); (exact q.2)
        refine V_sr T.mix (by kernel_rfl) (fun K15 hK15 => ?_)
        refine S_mv rfl ?_
        first | refine S_add rfl rfl (by omega) (by omega) ?_ | refine S_bin rfl rfl rfl ?_
        refine S_as rfl ?_
        refine S_nil (hK15 _ _ (V_keep [0, 1, 6, 8] (by simp only [proj, lk, reduceIte, Nat.reduceEqDiff]; rfl) ?_)); clear hK15
        refine V_reg T.mix (by kernel_rfl) ?_
        refine S_mv rfl ?_
        refine S_mv rfl ?_
        first | refine S_ixn T.el49 rfl rfl (by omega) ?_ | refine S_ix1 T.el49 rfl rfl (by omega) (by omega) ?_ | refine S_ix T.el49 rfl rfl (by omega) (by omega) ?_
        refine S_ldK T.ag3 rfl (fun K' hK' => ?_)
        simp (disch := omega) only [hc.at, oP_some, Nat.add_zero]
        refine hK' _ ?_; clear hK' K'
        refine S_as rfl ?_
        refine S_nilk [0, 1, 6, 7, 8] (by simp only [proj, lk, reduceIte, Nat.reduceEqDiff]; rfl) ?_
        refine hK9 _ _ ?_; clear hK9
        refine V_reg T.mix (by kernel_rfl) ?_
        refine S_mv rfl ?_
        first | refine S_add rfl rfl (by omega) (by omega) ?_ | refine S_bin rfl rfl rfl ?_
        refine S_as rfl ?_
        refine S_nilk [0, 1, 6, 7, 8] (by simp only [proj, lk, reduceIte, Nat.reduceEqDiff]; rfl) ?_
        exact hK6 _ _ ⟨_, by omega, i + 1, n + 1, c.getD i 0, by omega, hst.open hn.nodup (by omega) hop.1 hop.2, by omega, rfl, rfl, rfl⟩
      · skip
        have hfa : -(c.getD i 0) ∈ on := by rcases hv with q | q | q; (omega); (exact q.2); (omega)
        refine V_skipk [0, 1, 6, 7, 8] (by simp only [proj, lk, reduceIte, Nat.reduceEqDiff]; rfl) ?_
        refine hK9 _ _ ?_; clear hK9
        refine V_reg T.mix (by kernel_rfl) ?_
        refine S_mv rfl ?_
        first | refine S_add rfl rfl (by omega) (by omega) ?_ | refine S_bin rfl rfl rfl ?_
        refine S_as rfl ?_
        refine S_nilk [0, 1, 6, 7, 8] (by simp only [proj, lk, reduceIte, Nat.reduceEqDiff]; rfl) ?_
        exact hK6 _ _ ⟨_, by omega, i + 1, n, u, by omega, hst.down (by omega) hfa, by omega, rfl, rfl, rfl⟩
  · skip
    refine V_exitk [6, 7] rfl (by simp only [proj, lk, reduceIte, Nat.reduceEqDiff]; rfl) ?_
    refine hK4 _ _ ?_; clear hK4
    refine V_seq (fun K16 hK16 => ?_)
    refine V_sr T.mix (by kernel_rfl) (fun K17 hK17 => ?_)
    refine S_mv rfl ?_
    refine S_bin rfl rfl rfl ?_
    refine S_nil (hK17 _ _ (V_keep [6, 7, 33] (by simp only [proj, lk, reduceIte, Nat.reduceEqDiff]; rfl) ?_)); clear hK17
    refine V_condp rfl (fun c104 => ?_) (fun c104 => ?_)
    · skip
      refine V_sr T.mix (by kernel_rfl) (fun K18 hK18 => ?_)
      refine S_as rfl ?_
      refine S_as rfl ?_
      refine S_nil (hK18 _ _ (V_keep [4, 5] (by simp only [proj, lk, reduceIte, Nat.reduceEqDiff]; rfl) ?_)); clear hK18
      refine V_ret ?_
      refine hR _ _ (ret2 rfl rfl rfl ?_)
      have hie : i = c.length := by omega
      subst hie
      have hf := hst.fin
      rw [if_pos (show n = 0 by omega), if_neg (show ¬ n = 1 by omega)] at hf
      exact ⟨_, _, rfl, hf, rfl⟩
    · skip
      refine V_skipk [6, 7] (by simp only [proj, lk, reduceIte, Nat.reduceEqDiff]; rfl) ?_
      refine hK16 _ _ ?_; clear hK16
      refine V_seq (fun K19 hK19 => ?_)
      refine V_sr T.mix (by kernel_rfl) (fun K20 hK20 => ?_)
      refine S_mv rfl ?_
      refine S_bin rfl rfl rfl ?_
      refine S_nil (hK20 _ _ (V_keep [7, 35] (by simp only [proj, lk, reduceIte, Nat.reduceEqDiff]; rfl) ?_)); clear hK20
      refine V_condp rfl (fun c107 => ?_) (fun c107 => ?_)
      · skip
        refine V_sr T.mix (by kernel_rfl) (fun K21 hK21 => ?_)
        refine S_mv rfl ?_
        refine S_as rfl ?_
        refine S_as rfl ?_
        refine S_nil (hK21 _ _ (V_keep [4, 5] (by simp only [proj, lk, reduceIte, Nat.reduceEqDiff]; rfl) ?_)); clear hK21
        refine V_ret ?_
        refine hR _ _ (ret2 rfl rfl rfl ?_)
        have hie : i = c.length := by omega
        subst hie
        have hf := hst.fin
        rw [if_neg (show ¬ n = 0 by omega), if_pos (show n = 1 by omega), if_pos (show n = 1 by omega)] at hf
        exact ⟨_, _, rfl, hf, rfl⟩
      · skip
        refine V_skipk [] (by simp only [proj, lk, reduceIte, Nat.reduceEqDiff]; rfl) ?_
        refine hK19 _ _ ?_; clear hK19
        refine V_sr T.mix (by kernel_rfl) (fun K22 hK22 => ?_)
        refine S_as rfl ?_
        refine S_as rfl ?_
        refine S_nil (hK22 _ _ (V_keep [4, 5] (by simp only [proj, lk, reduceIte, Nat.reduceEqDiff]; rfl) ?_)); clear hK22
        refine V_ret ?_
        refine hR _ _ (ret2 rfl rfl rfl ?_)
        have hie : i = c.length := by omega
        subst hie
        have hf := hst.fin
        rw [if_neg (show ¬ n = 0 by omega), if_neg (show ¬ n = 1 by omega), if_neg (show ¬ n = 1 by omega)] at hf
        exact ⟨_, _, rfl, hf, rfl⟩
set_option maxHeartbeats 1600000 in
theorem closure_spec (h : Heap) (la : Option Addr) (lc lo hi_ : Nat) (cs : List (List Int)) (hlv : LV lo hi_ h la lc cs) (hcs : ∀ c ∈ cs, Nrm c) (hll : cs.length ≤ 1099511627776) (ao : Option Addr) (oc : Nat) (on : List Int) (ho : IL h ao oc on) (hlo : on.length ≤ 1000) (hgo : ∀ x ∈ on, gd x) (hcon : Con (· ∈ on)) (hno : on.Nodup) :
    FC Tryz.prog 111 (#[.slice la cs.length lc, .slice ao on.length oc] : Array Value) h fun rv h' => ∃ (a' : Option Addr) (c' : Nat) (out : List Int) (g : Bool), rv = .tuple #[.slice a' out.length c', .bool g] ∧ IL h' a' c' out ∧ out.length ≤ 2000 ∧ (g = true ↔ ¬ Fix cs (· ∈ on)) ∧ (g = false → out.Nodup ∧ (∀ x ∈ out, gd x) ∧ Con (· ∈ out) ∧ Snd cs (· ∈ on) (· ∈ out) ∧ (∀ x ∈ on, x ∈ out) ∧ ∀ c ∈ cs, Done (· ∈ out) c) ∧ Ext (fun _ => False) h h' := by
  refine FC_of [(0, .slice la cs.length lc), (1, .slice ao on.length oc)] Tryz.func111 rfl Tryz.ntmps111 (by simp) rfl (fun R hR => ?_)
  refine V_sr T.mix (by kernel_rfl) (fun K1 hK1 => ?_)
  refine S_as rfl ?_
  refine S_as rfl ?_
  refine S_nil (hK1 _ _ (V_keep [0, 1] (by simp only [proj, lk, reduceIte, Nat.reduceEqDiff]; rfl) ?_)); clear hK1
  refine V_sr T.mix (by kernel_rfl) (fun K2 hK2 => ?_)
  refine S_mv rfl ?_
  refine S_call T.hb87 rfl ?_
  refine FC.mono (copyints_spec h ao oc on ho (by omega)) ?_
  rintro v' h1 ⟨ua, rfl, hua, hE1, hfn, hub⟩
  have hu1 : OwnR h.size h1 ua on.length on.length (ints on) 3 1 := by rcases hua with q | ⟨bq, cq, q1, q2, q3⟩; (exact .inl q); (exact .inr ⟨bq, cq, q1, hub bq (by rw [q1]; rfl), q3⟩)
  refine S_as rfl ?_
  refine S_nil (hK2 _ _ (V_keep [0, 6] (by simp only [proj, lk, reduceIte, Nat.reduceEqDiff]; rfl) ?_)); clear hK2
  refine V_seq (fun K3 hK3 => ?_)
  refine V_sr T.mix (by kernel_rfl) (fun K4 hK4 => ?_)
  refine S_as rfl ?_
  refine S_nil (hK4 _ _ (V_keep [0, 6, 7] (by simp only [proj, lk, reduceIte, Nat.reduceEqDiff]; rfl) ?_)); clear hK4
  refine V_block ?_
  refine V_loop (fun m l h' => ∃ (r : Nat) (hk : Heap) (out : List Int) (ua : Option Addr) (uc : Nat), (r ≤ 13) ∧ (Clo1 cs on out r false 0) ∧ (out.Nodup) ∧ (Ext (fun _ => False) h hk) ∧ (OwnR h.size hk ua out.length uc (ints out) 3 1) ∧ m = 13 - r ∧ l = [(0, .slice la cs.length lc), (6, .slice ua out.length uc), (7, .int .i64 (r : Int))] ∧ hk = h') _ ⟨0, h1, on, ua, on.length, by omega, Clo1.fresh hgo hcon rfl, hno, hE1, hu1, rfl, rfl, rfl⟩ ?_
  rintro m l h' ⟨r, hk, out, ua, uc, hr, hcl, hnd, hE, hou, rfl, rfl, rfl⟩ K5 hK5
  have hvl := vcnt_le (pM out) (nM out)
  have hol := hcl.len
  refine V_seq (fun K6 hK6 => ?_)
  refine V_sr T.mix (by kernel_rfl) (fun K7 hK7 => ?_)
  refine S_mv rfl ?_
  refine S_bin rfl rfl rfl ?_
  refine S_nil (hK7 _ _ (V_keep [0, 6, 7, 15] (by simp only [proj, lk, reduceIte, Nat.reduceEqDiff]; rfl) ?_)); clear hK7
  refine V_condp rfl (fun c117 => ?_) (fun c117 => ?_)
  · skip
    refine V_skipk [0, 6, 7] (by simp only [proj, lk, reduceIte, Nat.reduceEqDiff]; rfl) ?_
    refine hK6 _ _ ?_; clear hK6
    refine V_seq (fun K8 hK8 => ?_)
    refine V_block ?_
    refine V_sr T.mix (by kernel_rfl) (fun K9 hK9 => ?_)
    refine S_as rfl ?_
    refine S_nil (hK9 _ _ (V_keep [0, 6, 7, 8] (by simp only [proj, lk, reduceIte, Nat.reduceEqDiff]; rfl) ?_)); clear hK9
    refine V_seq (fun K10 hK10 => ?_)
    refine V_sr T.mix (by kernel_rfl) (fun K11 hK11 => ?_)
    refine S_as rfl ?_
    refine S_nil (hK11 _ _ (V_keep [0, 6, 7, 8, 9] (by simp only [proj, lk, reduceIte, Nat.reduceEqDiff]; rfl) ?_)); clear hK11
    refine V_block ?_
    refine V_loop (fun m l h' => ∃ (i : Nat) (hk2 : Heap) (out2 : List Int) (ua2 : Option Addr) (uc2 : Nat) (g : Bool), (i ≤ cs.length) ∧ (Clo1 cs on out2 r g i) ∧ (out2.Nodup) ∧ (Ext (fun _ => False) h hk2) ∧ (OwnR h.size hk2 ua2 out2.length uc2 (ints out2) 3 1) ∧ m = cs.length - i ∧ l = [(0, .slice la cs.length lc), (6, .slice ua2 out2.length uc2), (7, .int .i64 (r : Int)), (8, .bool (decide (g = true))), (9, .int .i64 (i : Int))] ∧ hk2 = h') _ ⟨0, hk, out, ua, uc, false, by omega, hcl, hnd, hE, hou, rfl, rfl, rfl⟩ ?_
    rintro m l h' ⟨i, hk2, out2, ua2, uc2, g, hi, hcl2, hnd2, hE2, hou2, rfl, rfl, rfl⟩ K12 hK12
    have hs2 := hE2.1
    have hvl2 := vcnt_le (pM out2) (nM out2)
    have hol2 := hcl2.len
    refine V_seq (fun K13 hK13 => ?_)
    refine V_sr T.mix (by kernel_rfl) (fun K14 hK14 => ?_)
    refine S_mv rfl ?_
    refine S_mv rfl ?_
    refine S_lenl T.el38 rfl ?_
    refine S_bin rfl rfl rfl ?_
    refine S_nil (hK14 _ _ (V_keep [0, 6, 7, 8, 9, 21] (by simp only [proj, lk, reduceIte, Nat.reduceEqDiff]; rfl) ?_)); clear hK14
    refine V_condp rfl (fun c119 => ?_) (fun c119 => ?_)
    · skip
      obtain ⟨bb, rfl, _, _, hgt⟩ := (hlv.ext hE2 (fun z _ _ f => f)).get (by omega)
      obtain ⟨ai, ci, hcell, hIc, hbi⟩ := hgt i (by omega)
      refine V_skipk [0, 6, 7, 8, 9] (by simp only [proj, lk, reduceIte, Nat.reduceEqDiff]; rfl) ?_
      refine hK13 _ _ ?_; clear hK13
      refine V_seq (fun K15 hK15 => ?_)
      refine V_block ?_
      refine V_sr T.mix (by kernel_rfl) (fun K16 hK16 => ?_)
      refine S_mv rfl ?_
      refine S_mv rfl ?_
      first | refine S_ixn T.el38 rfl rfl (by omega) ?_ | refine S_ix1 T.el38 rfl rfl (by omega) (by omega) ?_ | refine S_ix T.el38 rfl rfl (by omega) (by omega) ?_
      refine S_ldK T.ag49 rfl (fun K' hK' => ?_)
      simp (disch := omega) only [hcell, oP_some, Nat.add_zero]
      refine hK' _ ?_; clear hK' K'
      refine S_mv rfl ?_
      refine S_call T.hb135 rfl ?_
      refine FC.mono (state_spec hk2 ai ci (cs.getD i []) hIc (hcs _ (getD_mem (by omega))) ua2 uc2 out2 (own0 hou2) (by omega) hcl2.con) ?_
      rintro v' h' ⟨s, u, rfl, hst, rfl⟩
      refine S_mv rfl ?_
      refine S_ex rfl rfl ?_
      refine S_ex rfl rfl ?_
      refine S_as rfl ?_
      refine S_as rfl ?_
      refine S_nil (hK16 _ _ (V_keep [0, 6, 7, 8, 9, 10, 11] (by simp only [proj, lk, reduceIte, Nat.reduceEqDiff]; rfl) ?_)); clear hK16
      refine V_seq (fun K17 hK17 => ?_)
      refine V_sr T.mix (by kernel_rfl) (fun K18 hK18 => ?_)
      refine S_mv rfl ?_
      refine S_bin rfl rfl rfl ?_
      refine S_nil (hK18 _ _ (V_keep [0, 6, 7, 8, 9, 10, 11, 34] (by simp only [proj, lk, reduceIte, Nat.reduceEqDiff]; rfl) ?_)); clear hK18
      refine V_condp rfl (fun c121 => ?_) (fun c121 => ?_)
      · skip
        refine V_sr T.mix (by kernel_rfl) (fun K19 hK19 => ?_)
        refine S_mv rfl ?_
        refine S_as rfl ?_
        refine S_as rfl ?_
        refine S_nil (hK19 _ _ (V_keep [4, 5] (by simp only [proj, lk, reduceIte, Nat.reduceEqDiff]; rfl) ?_)); clear hK19
        refine V_ret ?_
        refine hR _ _ (ret2 rfl rfl rfl ?_)
        exact ⟨_, _, _, true, rfl, own0 hou2, by omega, ⟨fun _ => snd_hit hcl2.snd (getD_mem (show i < cs.length by omega)) (by rcases hst with q | q | q | q; (omega); (exact q.2.2); (omega); (omega)), fun _ => rfl⟩, fun e => (by cases e), hE2⟩
      · skip
        refine V_skipk [0, 6, 7, 8, 9, 10, 11] (by simp only [proj, lk, reduceIte, Nat.reduceEqDiff]; rfl) ?_
        refine hK17 _ _ ?_; clear hK17
        refine V_sr T.mix (by kernel_rfl) (fun K20 hK20 => ?_)
        refine S_mv rfl ?_
        refine S_bin rfl rfl rfl ?_
        refine S_nil (hK20 _ _ (V_keep [0, 6, 7, 8, 9, 11, 37] (by simp only [proj, lk, reduceIte, Nat.reduceEqDiff]; rfl) ?_)); clear hK20
        refine V_condp rfl (fun c124 => ?_) (fun c124 => ?_)
        · skip
          obtain ⟨k1, k2, k3, k4⟩ : u ∈ cs.getD i [] ∧ u ∉ out2 ∧ -u ∉ out2 ∧ ∀ y ∈ cs.getD i [], y ≠ u → -y ∈ out2 := by rcases hst with q | q | q | q; (omega); (omega); (exact q.2); (omega)
          have hcu := hcl2.unit (by omega) (hcs _ (getD_mem (by omega))) k1 k2 k3 k4
          refine V_sr T.mix (by kernel_rfl) (fun K21 hK21 => ?_)
          refine S_mv rfl ?_
          refine S_mv rfl ?_
          refine S_bs T.ei49 rfl (by decide) (by decide) (T.bs49_1_0 _) ?_
          refine S_appx (lo := h.size) T.ei49 T.ni49 T.us49 rfl rfl rfl (OwnR.ext hou2 (Ext.push (fun _ => False) _ _) (fun _ _ f => f)) (by simp; omega) (cellsH_new _ _ _) rfl (by omega) (by decide) (by decide) rfl (fun a4 c4 h4 ho4 hE4x hb4x => ?_)
          have hE4 : Ext (fun z => blkA ua2 = some z) hk2 h4 := (Ext.push _ _ _).trans hE4x
          have hb4 := new_blk2 (h := hk2) hb4x (by simp)
          have hou4 : OwnR h.size h4 a4 (out2 ++ [u]).length c4 (ints (out2 ++ [u])) 3 1 := by rw [ints_snoc, List.length_append]; exact ho4
          refine S_as rfl ?_
          refine S_nil (hK21 _ _ (V_keep [0, 6, 7, 9] (by simp only [proj, lk, reduceIte, Nat.reduceEqDiff]; rfl) ?_)); clear hK21
          refine V_reg T.mix (by kernel_rfl) ?_
          refine S_as rfl ?_
          refine S_nilk [0, 6, 7, 8, 9] (by simp only [proj, lk, reduceIte, Nat.reduceEqDiff]; rfl) ?_
          refine hK15 _ _ ?_; clear hK15
          refine V_reg T.mix (by kernel_rfl) ?_
          refine S_mv rfl ?_
          first | refine S_add rfl rfl (by omega) (by omega) ?_ | refine S_bin rfl rfl rfl ?_
          refine S_as rfl ?_
          refine S_nilk [0, 6, 7, 8, 9] (by simp only [proj, lk, reduceIte, Nat.reduceEqDiff]; rfl) ?_
          exact hK12 _ _ ⟨_, by omega, i + 1, h4, out2 ++ [u], a4, c4, true, by omega, hcu, nodup_snoc hnd2 k2, (hE2.step hE4 (fun z hz e => by have h9 := OwnR.blk2 hou2 e; omega)), hou4, rfl, by simp, rfl⟩
        · skip
          have hdn : Done (· ∈ out2) (cs.getD i []) := by rcases hst with q | q | q | q; (exact .inl q.2.2); (omega); (omega); (exact .inr q.2.2)
          refine V_skipk [0, 6, 7, 8, 9] (by simp only [proj, lk, reduceIte, Nat.reduceEqDiff]; rfl) ?_
          refine hK15 _ _ ?_; clear hK15
          refine V_reg T.mix (by kernel_rfl) ?_
          refine S_mv rfl ?_
          first | refine S_add rfl rfl (by omega) (by omega) ?_ | refine S_bin rfl rfl rfl ?_
          refine S_as rfl ?_
          refine S_nilk [0, 6, 7, 8, 9] (by simp only [proj, lk, reduceIte, Nat.reduceEqDiff]; rfl) ?_
          exact hK12 _ _ ⟨_, by omega, i + 1, hk2, out2, ua2, uc2, g, by omega, hcl2.skip (by omega) hdn, hnd2, hE2, hou2, rfl, rfl, rfl⟩
    · skip
      refine V_exitk [0, 6, 7, 8] rfl (by simp only [proj, lk, reduceIte, Nat.reduceEqDiff]; rfl) ?_
      refine hK10 _ _ ?_; clear hK10
      refine V_sr T.mix (by kernel_rfl) (fun K22 hK22 => ?_)
      refine S_mv rfl ?_
      refine S_not rfl ?_
      refine S_nil (hK22 _ _ (V_keep [0, 6, 7, 43] (by simp only [proj, lk, reduceIte, Nat.reduceEqDiff]; rfl) ?_)); clear hK22
      refine V_condp rfl (fun c129 => ?_) (fun c129 => ?_)
      · skip
        refine V_sr T.mix (by kernel_rfl) (fun K23 hK23 => ?_)
        refine S_mv rfl ?_
        refine S_as rfl ?_
        refine S_as rfl ?_
        refine S_nil (hK23 _ _ (V_keep [4, 5] (by simp only [proj, lk, reduceIte, Nat.reduceEqDiff]; rfl) ?_)); clear hK23
        refine V_ret ?_
        refine hR _ _ (ret2 rfl rfl rfl ?_)
        have hgf : g = false := by simpa using c129
        subst hgf
        have hdn2 := (hcl2.no rfl).2
        rw [show i = cs.length by omega, List.take_length] at hdn2
        exact ⟨_, _, _, false, rfl, own0 hou2, by omega, ⟨fun e => (by cases e), fun e => absurd (hcl2.fix (by omega)) e⟩, fun _ => ⟨hnd2, hcl2.gd, hcl2.con, hcl2.snd, hcl2.onn, hdn2⟩, hE2⟩
      · skip
        refine V_skipk [0, 6, 7] (by simp only [proj, lk, reduceIte, Nat.reduceEqDiff]; rfl) ?_
        refine hK8 _ _ ?_; clear hK8
        refine V_reg T.mix (by kernel_rfl) ?_
        refine S_mv rfl ?_
        first | refine S_add rfl rfl (by omega) (by omega) ?_ | refine S_bin rfl rfl rfl ?_
        refine S_as rfl ?_
        refine S_nilk [0, 6, 7] (by simp only [proj, lk, reduceIte, Nat.reduceEqDiff]; rfl) ?_
        have hgt : g = true := by simpa using c129
        subst hgt
        exact hK5 _ _ ⟨_, by omega, r + 1, hk2, out2, ua2, uc2, by omega, hcl2.next, hnd2, hE2, hou2, rfl, rfl, rfl⟩
  · skip
    refine V_exitk [6] rfl (by simp only [proj, lk, reduceIte, Nat.reduceEqDiff]; rfl) ?_
    refine hK3 _ _ ?_; clear hK3
    refine V_sr T.mix (by kernel_rfl) (fun K24 hK24 => ?_)
    refine S_mv rfl ?_
    refine S_as rfl ?_
    refine S_as rfl ?_
    refine S_nil (hK24 _ _ (V_keep [4, 5] (by simp only [proj, lk, reduceIte, Nat.reduceEqDiff]; rfl) ?_)); clear hK24
    refine V_ret ?_
    refine hR _ _ (ret2 rfl rfl rfl ?_)
    exact absurd (hcl.no rfl).1 (by omega)
end Go.Proofs.Qxb6500401aGreat
