import Derived.Test.Qxb6500401aGreatMb
set_option linter.unusedVariables false
set_option linter.unusedSimpArgs false
namespace Go.Proofs.Qxb6500401aGreat
open Go.Eng Go.Trl Go.Chk Go.Wat

theorem ints_at {l : List Int} {m : Nat} (hm : m < l.length) : (ints l)[m]? = some (.int .i64 (l.getD m 0)) := by simp [ints, hm]
theorem cells_of {h : Heap} {b o : Nat} : ∀ (xs : List Value) (i : Nat), (∀ j, j < xs.length → cellH h ⟨b, o + i + j, none⟩ = xs[j]?) → cellsH h ⟨b, o, none⟩ i xs.length = some xs
  | [], i, _ => rfl
  | x :: xs, i, hh => by
    have h0 := hh 0 (by simp)
    rw [Nat.add_zero] at h0
    simp only [List.length_cons, cellsH, add_mk, h0, List.getElem?_cons_zero]
    rw [cells_of xs (i + 1) (fun j hj => by have := hh (j + 1) (by simp; omega); rw [show o + i + (j + 1) = o + (i + 1) + j by omega] at this; simpa using this)]
    rfl
theorem sliceV_lh {P : Program} {t : TypeId} {z b o len cap p q : Nat} {k k' : IntKind} (hz : elS P t = some z) (h1 : p ≤ q) (h2 : q ≤ cap) (h3 : p < cap) : sliceV P t (.slice (some ⟨b, o, none⟩) len cap) (some (.int k (p : Int))) (some (.int k' (q : Int))) = some (.slice (some ⟨b, o + p * z, none⟩) (q - p) (cap - p)) := by
  simp only [sliceV, hz, loV]
  rw [if_pos ⟨by omega, by omega, by omega⟩, Int.toNat_natCast, if_neg (by omega), Int.toNat_natCast]
  simp only [Option.map_some, add_mk]
def CLj (cs : Sto) (j : Nat) : Nat → Option (List Int) := fun i => if i < j then cs[i]? else none
theorem CLj_add {cs : Sto} {j : Nat} (hj : j < cs.length) (h40 : cs.length ≤ 40) {c : List Int} (hc : cs[j]? = some c) (hn : ccE c = 0) : addS (CLj cs j) c false = CLj cs (j + 1) := by
  have hf : frI (CLj cs j) 0 40 = some j := frI_hit 40 0 (by omega) (by omega) (by unfold CLj; rw [if_neg (by omega)]; rfl) (fun i _ hi => by unfold CLj; rw [if_pos hi, List.getElem?_eq_getElem (by omega)]; rfl)
  unfold addS; rw [if_pos hn]
  simp only [loI, nI]
  rw [if_neg (by simp), if_neg (by simp), hf]
  simp only []
  funext i
  unfold upO CLj
  by_cases e : i = j
  · subst e; rw [if_pos rfl, if_pos (by omega), hc]
  · rw [if_neg e]
    by_cases e2 : i < j
    · rw [if_pos e2, if_pos (by omega)]
    · rw [if_neg e2, if_neg (by omega)]
theorem nrm_ccG : ∀ {c : List Int} {la : Nat}, Nrm c → (∀ x ∈ c, la < x.natAbs) → ccG la c = 0
  | [], la, _, _ => rfl
  | x :: r, la, h, hl => by
    have hg := h.1 x (by simp)
    rw [ccG, if_pos (show x ≠ 0 ∧ -12 ≤ x ∧ x ≤ 12 from hg), if_neg (by have := hl x (by simp); omega)]
    exact nrm_ccG ⟨fun y hy => h.1 y (by simp [hy]), (List.pairwise_cons.1 h.2).2⟩ (List.pairwise_cons.1 h.2).1
theorem nrm_ccE {c : List Int} (h : Nrm c) : ccE c = 0 := by
  have := h.len
  unfold ccE; rw [if_neg (by omega)]
  exact nrm_ccG h (fun x hx => by have := h.1 x hx; unfold gd at this; omega)
theorem count_snoc {l : List Int} {i : Nat} (h : i < l.length) : (l.take (i + 1)).count 0 = (l.take i).count 0 + if l.getD i 0 = 0 then 1 else 0 := by
  rw [getD_snoc l i h, List.count_append]
  congr 1
  by_cases e : l.getD i 0 = 0
  · rw [e]; simp
  · rw [if_neg e, List.count_eq_zero]; simpa using fun q => e q.symm
theorem fit16 {rows : List Rw} (hN : NrmR rows) (h : (13 : Int) ∈ flatR rows) : fitF rows = 16 := by
  unfold fitF; rw [if_pos ((mem13 hN).1 h)]
theorem fit0 {rows : List Rw} (hN : NrmR rows) (h : (13 : Int) ∉ flatR rows) : fitF rows = if 40 < rows.length then 17 else 0 := by
  unfold fitF; rw [if_neg (fun q => h ((mem13 hN).2 q))]
/-- the learnt clauses alive, as the solver knows them -/
structure AL (Q : SR) (cl : Nat → Option (List Int)) : Prop where
  lt : Q.al < 4096
  bit : ∀ k, k < 12 → Q.al.testBit k = (cl (40 + k)).isSome
  ct : Q.ct = aL cl
theorem AL.rem {Q : SR} {cl : Nat → Option (List Int)} (h : AL Q cl) {k n : Nat} {cl' : Nat → Option (List Int)} (hcl : cl' = upO cl (40 + k) none) (hn : n = aL cl') : AL { Q with al := wo Q.al (2 ^ k), ct := n } cl' := by
  refine ⟨wo_lt (n := 12) h.lt, fun j hj => ?_, hn⟩
  simp only []
  rw [wo_bit2, h.bit j hj, hcl]
  by_cases e : k = j
  · subst e; rw [upO_self]; simp
  · rw [upO_ne (by omega)]; simp [e]
theorem AL.add {Q : SR} {cl : Nat → Option (List Int)} (h : AL Q cl) {k : Nat} {c : List Int} (hk : k < 12) (hc : cl (40 + k) = none) : AL { Q with al := Q.al ||| 2 ^ k, ct := Q.ct + 1 } (upO cl (40 + k) (some c)) := by
  refine ⟨Nat.or_lt_two_pow (n := 12) h.lt (Nat.pow_lt_pow_right (n := 12) (by omega) hk), fun j hj => ?_, ?_⟩
  · simp only []
    rw [or_bit, h.bit j hj]
    by_cases e : k = j
    · subst e; rw [upO_self]; simp
    · rw [upO_ne (by omega)]; simp [e]
  · simp only []; rw [aL_put hc (by omega) (by omega), h.ct]
def Kf (Q Q' : SR) : Prop := Q'.act = Q.act ∧ Q'.ph = Q.ph ∧ Q'.inc = Q.inc ∧ Q'.cf = Q.cf ∧ Q'.rs = Q.rs ∧ Q'.si = Q.si
/-- a list that lies apart -/
def Far (V X C K : Nat) (la a : Option Addr) : Prop := ∀ z, blkA a = some z → z ≠ V ∧ z ≠ X ∧ z ≠ C ∧ z ≠ K ∧ blkA la ≠ some z
theorem SEx.il {V X C K : Nat} {h h' : Heap} {la la' a : Option Addr} {c : Nat} {l : List Int} (e : SEx V X C K h h' la la') (hI : IL h a c l) (hf : Far V X C K la a) : IL h' a c l ∧ Far V X C K la' a := by
  refine ⟨hI.ext e.1 (fun b hb q => ?_), fun z hz => ?_⟩
  · have := hf b hb
    rcases q with q | q | q | q | q
    · exact this.1 q
    · exact this.2.1 q
    · exact this.2.2.1 q
    · exact this.2.2.2.1 q
    · exact this.2.2.2.2 q
  · have h1 := hf z hz
    refine ⟨h1.1, h1.2.1, h1.2.2.1, h1.2.2.2.1, fun q => ?_⟩
    rcases e.2 z q with r | r
    · exact h1.2.2.2.2 r
    · have := hI.lt hz; omega
theorem al_and {a k : Nat} : (((a &&& 2 ^ k : Nat) : Int) ≠ 0) ↔ a.testBit k = true := by
  have := and_ne (x := a) (n := k)
  constructor
  · intro h; exact this.1 (by omega)
  · intro h; have := this.2 h; omega
theorem t16 {a : Nat} (h : a < 4096) : a < top .u16 := Nat.lt_of_lt_of_le h (by decide)
theorem b16 {a : Nat} (h : a < 4096) : a < 2 ^ IntKind.u16.bits := Nat.lt_of_lt_of_le h (by decide)
theorem p12 {k : Nat} (h : k < 12) : 2 ^ k < 4096 := Nat.pow_lt_pow_right (n := 12) (by omega) h

theorem cs_at {rows : List Rw} {j : Nat} (hj : j < rows.length) : (rows.map (fun x => x.2))[j]? = some (rows.getD j (false, [])).2 := by
  rw [List.getElem?_map, List.getElem?_eq_getElem hj]; simp [hj]
theorem fl_at {rows : List Rw} (hN : NrmR rows) (hd : ∀ r ∈ rows, r.1 = false) {j k : Nat} (hj : j < rows.length) (hk : k ≤ (rows.getD j (false, [])).2.length) : (flatR rows).getD ((flatR (rows.take j)).length + k) 0 = (if k < (rows.getD j (false, [])).2.length then (rows.getD j (false, [])).2.getD k 0 else 0) := by
  have hdl : dl (rows.getD j (false, [])) = 0 := by unfold dl; rw [hd _ (rmem hj)]; rfl
  rw [flat_split rows hj]
  split
  · rename_i e
    have := rd_lit (flatR (rows.take j)) (rows.getD j (false, [])) (flatR (rows.drop (j + 1))) k e
    rw [hdl, Nat.add_zero] at this; exact this
  · have := rd_zero (flatR (rows.take j)) (rows.getD j (false, [])) (flatR (rows.drop (j + 1)))
    rw [hdl, Nat.add_zero] at this
    rw [show k = (rows.getD j (false, [])).2.length by omega]; exact this
theorem fl_next {rows : List Rw} (hd : ∀ r ∈ rows, r.1 = false) {j : Nat} (hj : j < rows.length) : (flatR (rows.take (j + 1))).length = (flatR (rows.take j)).length + (rows.getD j (false, [])).2.length + 1 := by
  have hdl : dl (rows.getD j (false, [])) = 0 := by unfold dl; rw [hd _ (rmem hj)]; rfl
  rw [flat_next hj, oneR_len, hdl]; omega
theorem fl_le {rows : List Rw} (hd : ∀ r ∈ rows, r.1 = false) {j : Nat} (hj : j < rows.length) : (flatR (rows.take j)).length + (rows.getD j (false, [])).2.length + 1 ≤ (flatR rows).length := by
  rw [← fl_next hd hj]
  conv => rhs; rw [← List.take_append_drop (j + 1) rows, flatR_app, List.length_append]
  omega

def S0 : SR := ⟨fun _ => 0, fun _ => 0, 1, 0, 0, 0, 0, 0⟩

theorem sh_and {a k : Nat} : decide (((a / 2 ^ k % 2 : Nat) : Int) = 1) = a.testBit k := by
  rw [Nat.testBit_eq_decide_div_mod_eq]; exact decide_eq_decide.2 ⟨fun e => by omega, fun e => by omega⟩
set_option maxHeartbeats 400000 in
theorem survey_spec (h : Heap) (fa : Option Addr) (fc : Nat) (rows : List Rw) (hf : IL h fa fc (flatR rows)) (hN : NrmR rows) (hfl : (flatR rows).length ≤ 100000000) :
    FC Tryz.prog 56 (#[.slice fa (flatR rows).length fc] : Array Value) h fun rv h' => rv = .int .i64 ((fitF rows : Nat) : Int) ∧ h = h' := by
  refine FC_of [(0, .slice fa (flatR rows).length fc)] Tryz.func56 rfl Tryz.ntmps56 (by simp) rfl (fun R hR => ?_)
  refine V_sr T.mix (by kernel_rfl) (fun K1 hK1 => ?_)
  refine S_as rfl ?_
  refine S_nil (hK1 _ _ (V_keep [0] (by simp only [proj, lk, reduceIte, Nat.reduceEqDiff]; rfl) ?_)); clear hK1
  refine V_sr T.mix (by kernel_rfl) (fun K2 hK2 => ?_)
  refine S_as rfl ?_
  refine S_nil (hK2 _ _ (V_keep [0, 3] (by simp only [proj, lk, reduceIte, Nat.reduceEqDiff]; rfl) ?_)); clear hK2
  refine V_seq (fun K3 hK3 => ?_)
  refine V_sr T.mix (by kernel_rfl) (fun K4 hK4 => ?_)
  refine S_as rfl ?_
  refine S_nil (hK4 _ _ (V_keep [0, 3, 4] (by simp only [proj, lk, reduceIte, Nat.reduceEqDiff]; rfl) ?_)); clear hK4
  refine V_block ?_
  refine V_loop (fun m l h' => ∃ (i n : Nat), (i ≤ (flatR rows).length) ∧ (n = ((flatR rows).take i).count 0) ∧ ((13 : Int) ∉ (flatR rows).take i) ∧ (n ≤ i) ∧ m = (flatR rows).length - i ∧ l = [(0, .slice fa (flatR rows).length fc), (3, .int .i64 (n : Int)), (4, .int .i64 (i : Int))] ∧ h = h') _ ⟨0, 0, by omega, by simp, by simp, by omega, rfl, rfl, rfl⟩ ?_
  rintro m l h' ⟨i, n, hi, hn, h13, hnl, rfl, rfl, rfl⟩ K5 hK5
  refine V_seq (fun K6 hK6 => ?_)
  refine V_sr T.mix (by kernel_rfl) (fun K7 hK7 => ?_)
  refine S_mv rfl ?_
  refine S_mv rfl ?_
  refine S_lenl T.el49 rfl ?_
  refine S_bin rfl rfl rfl ?_
  refine S_nil (hK7 _ _ (V_keep [0, 3, 4, 8] (by simp only [proj, lk, reduceIte, Nat.reduceEqDiff]; rfl) ?_)); clear hK7
  refine V_condp rfl (fun c44 => ?_) (fun c44 => ?_)
  · skip
    obtain ⟨bb, rfl, _, hg, _⟩ := hf.get (by omega)
    have hcc := hg i (by omega)
    refine V_skipk [0, 3, 4] (by simp only [proj, lk, reduceIte, Nat.reduceEqDiff]; rfl) ?_
    refine hK6 _ _ ?_; clear hK6
    refine V_seq (fun K8 hK8 => ?_)
    refine V_block ?_
    refine V_seq (fun K9 hK9 => ?_)
    refine V_sr T.mix (by kernel_rfl) (fun K10 hK10 => ?_)
    refine S_mv rfl ?_
    refine S_mv rfl ?_
    first | refine S_ixn T.el49 rfl rfl (by omega) ?_ | refine S_ix1 T.el49 rfl rfl (by omega) (by omega) ?_ | refine S_ix T.el49 rfl rfl (by omega) (by omega) ?_
    refine S_ldK T.ag3 rfl (fun K' hK' => ?_)
    simp (disch := omega) only [hcc, oP_some, Nat.add_zero]
    refine hK' _ ?_; clear hK' K'
    refine S_bin rfl rfl rfl ?_
    refine S_nil (hK10 _ _ (V_keep [0, 3, 4, 15] (by simp only [proj, lk, reduceIte, Nat.reduceEqDiff]; rfl) ?_)); clear hK10
    refine V_condp rfl (fun c45 => ?_) (fun c45 => ?_)
    · skip
      refine V_sr T.mix (by kernel_rfl) (fun K11 hK11 => ?_)
      refine S_as rfl ?_
      refine S_nil (hK11 _ _ (V_keep [2] (by simp only [proj, lk, reduceIte, Nat.reduceEqDiff]; rfl) ?_)); clear hK11
      refine V_ret ?_
      refine hR _ _ (ret1 rfl rfl ?_)
      exact ⟨by rw [fit16 hN (by rw [← c45]; exact mem_at (by omega))]; rfl, rfl⟩
    · skip
      refine V_skipk [0, 3, 4] (by simp only [proj, lk, reduceIte, Nat.reduceEqDiff]; rfl) ?_
      refine hK9 _ _ ?_; clear hK9
      refine V_sr T.mix (by kernel_rfl) (fun K12 hK12 => ?_)
      refine S_mv rfl ?_
      refine S_mv rfl ?_
      first | refine S_ixn T.el49 rfl rfl (by omega) ?_ | refine S_ix1 T.el49 rfl rfl (by omega) (by omega) ?_ | refine S_ix T.el49 rfl rfl (by omega) (by omega) ?_
      refine S_ldK T.ag3 rfl (fun K' hK' => ?_)
      simp (disch := omega) only [hcc, oP_some, Nat.add_zero]
      refine hK' _ ?_; clear hK' K'
      refine S_bin rfl rfl rfl ?_
      refine S_nil (hK12 _ _ (V_keep [0, 3, 4, 20] (by simp only [proj, lk, reduceIte, Nat.reduceEqDiff]; rfl) ?_)); clear hK12
      refine V_condp rfl (fun c48 => ?_) (fun c48 => ?_)
      · skip
        refine V_reg T.mix (by kernel_rfl) ?_
        refine S_mv rfl ?_
        first | refine S_add rfl rfl (by omega) (by omega) ?_ | refine S_bin rfl rfl rfl ?_
        refine S_as rfl ?_
        refine S_nilk [0, 3, 4] (by simp only [proj, lk, reduceIte, Nat.reduceEqDiff]; rfl) ?_
        refine hK8 _ _ ?_; clear hK8
        refine V_reg T.mix (by kernel_rfl) ?_
        refine S_mv rfl ?_
        first | refine S_add rfl rfl (by omega) (by omega) ?_ | refine S_bin rfl rfl rfl ?_
        refine S_as rfl ?_
        refine S_nilk [0, 3, 4] (by simp only [proj, lk, reduceIte, Nat.reduceEqDiff]; rfl) ?_
        exact hK5 _ _ ⟨_, by omega, i + 1, n + 1, by omega, by rw [count_snoc (by omega), if_pos c48, hn], fun q => by rcases (mem_take_snoc (show i < (flatR rows).length by omega)).1 q with z | z; (exact h13 z); (exact c45 z.symm), by omega, rfl, rfl, rfl⟩
      · skip
        refine V_skipk [0, 3, 4] (by simp only [proj, lk, reduceIte, Nat.reduceEqDiff]; rfl) ?_
        refine hK8 _ _ ?_; clear hK8
        refine V_reg T.mix (by kernel_rfl) ?_
        refine S_mv rfl ?_
        first | refine S_add rfl rfl (by omega) (by omega) ?_ | refine S_bin rfl rfl rfl ?_
        refine S_as rfl ?_
        refine S_nilk [0, 3, 4] (by simp only [proj, lk, reduceIte, Nat.reduceEqDiff]; rfl) ?_
        exact hK5 _ _ ⟨_, by omega, i + 1, n, by omega, by rw [count_snoc (by omega), if_neg c48, hn]; rfl, fun q => by rcases (mem_take_snoc (show i < (flatR rows).length by omega)).1 q with z | z; (exact h13 z); (exact c45 z.symm), by omega, rfl, rfl, rfl⟩
  · skip
    have hie : i = (flatR rows).length := by omega
    rw [hie, List.take_length] at hn h13
    rw [count0 hN] at hn
    refine V_exitk [3] rfl (by simp only [proj, lk, reduceIte, Nat.reduceEqDiff]; rfl) ?_
    refine hK3 _ _ ?_; clear hK3
    refine V_seq (fun K13 hK13 => ?_)
    refine V_sr T.mix (by kernel_rfl) (fun K14 hK14 => ?_)
    refine S_mv rfl ?_
    refine S_bin rfl rfl rfl ?_
    refine S_nil (hK14 _ _ (V_keep [24] (by simp only [proj, lk, reduceIte, Nat.reduceEqDiff]; rfl) ?_)); clear hK14
    refine V_condp rfl (fun c52 => ?_) (fun c52 => ?_)
    · skip
      refine V_sr T.mix (by kernel_rfl) (fun K15 hK15 => ?_)
      refine S_as rfl ?_
      refine S_nil (hK15 _ _ (V_keep [2] (by simp only [proj, lk, reduceIte, Nat.reduceEqDiff]; rfl) ?_)); clear hK15
      refine V_ret ?_
      refine hR _ _ (ret1 rfl rfl ?_)
      exact ⟨by rw [fit0 hN h13, if_pos (by omega)]; rfl, rfl⟩
    · skip
      refine V_skipk [] (by simp only [proj, lk, reduceIte, Nat.reduceEqDiff]; rfl) ?_
      refine hK13 _ _ ?_; clear hK13
      refine V_sr T.mix (by kernel_rfl) (fun K16 hK16 => ?_)
      refine S_as rfl ?_
      refine S_nil (hK16 _ _ (V_keep [2] (by simp only [proj, lk, reduceIte, Nat.reduceEqDiff]; rfl) ?_)); clear hK16
      refine V_ret ?_
      refine hR _ _ (ret1 rfl rfl ?_)
      exact ⟨by rw [fit0 hN h13, if_neg (by omega)]; rfl, rfl⟩
set_option maxHeartbeats 400000 in
theorem copysub_spec (h : Heap) (a : Option Addr) (cap : Nat) (xs : List Int) (hsrc1 : ∀ h1, Ext (fun _ => False) h h1 → srcV h1 1 xs.length (.slice a xs.length cap) = some (ints xs)) (hl : xs.length ≤ 1099511627776) :
    FC Tryz.prog 87 (#[.slice a xs.length cap] : Array Value) h fun v h' => ∃ a', v = .slice a' xs.length xs.length ∧ IL h' a' xs.length xs ∧ Ext (fun _ => False) h h' ∧ (xs.length = 0 → a' = none) ∧ (∀ b, blkA a' = some b → h.size ≤ b) := by
  refine FC_of [(0, .slice a xs.length cap)] Tryz.func87 rfl Tryz.ntmps87 (by simp) rfl (fun R hR => ?_)
  refine V_sr T.mix (by kernel_rfl) (fun K1 hK1 => ?_)
  refine S_as rfl ?_
  refine S_nil (hK1 _ _ (V_keep [0] (by simp only [proj, lk, reduceIte, Nat.reduceEqDiff]; rfl) ?_)); clear hK1
  refine V_seq (fun K2 hK2 => ?_)
  refine V_sr T.mix (by kernel_rfl) (fun K3 hK3 => ?_)
  refine S_mv rfl ?_
  refine S_lenl T.el49 rfl ?_
  refine S_bin rfl rfl rfl ?_
  refine S_nil (hK3 _ _ (V_keep [0, 6] (by simp only [proj, lk, reduceIte, Nat.reduceEqDiff]; rfl) ?_)); clear hK3
  refine V_condp rfl (fun c73 => ?_) (fun c73 => ?_)
  · skip
    refine V_sr T.mix (by kernel_rfl) (fun K4 hK4 => ?_)
    refine S_as rfl ?_
    refine S_nil (hK4 _ _ (V_keep [2] (by simp only [proj, lk, reduceIte, Nat.reduceEqDiff]; rfl) ?_)); clear hK4
    refine V_ret ?_
    refine hR _ _ (ret1 rfl rfl ?_)
    have hx : xs = [] := List.eq_nil_of_length_eq_zero (by omega)
    subst hx
    exact ⟨none, rfl, IL.nil _, Ext.refl _ _, fun _ => rfl, fun b hb => by simp [blkA] at hb⟩
  · skip
    refine V_skipk [0] (by simp only [proj, lk, reduceIte, Nat.reduceEqDiff]; rfl) ?_
    refine hK2 _ _ ?_; clear hK2
    refine V_sr T.mix (by kernel_rfl) (fun K5 hK5 => ?_)
    refine S_mv rfl ?_
    refine S_lenl T.el49 rfl ?_
    refine S_mk T.ei49 rfl rfl (by omega) (by omega) (by omega) (by omega) ?_
    simp only [Int.toNat_natCast, Nat.mul_one, mkZ_one]
    generalize hh : Array.push h _ = h1
    have hB1 : B h1 h.size (arr xs.length fun _ => .int .i64 0) 3 := by rw [← hh]; exact B.new _ _ _
    have hE1 : Ext (fun _ => False) h h1 := by rw [← hh]; exact Ext.push _ _ _
    have ho1 := hsrc1 h1 hE1
    clear hh
    refine S_as rfl ?_
    refine S_nil (hK5 _ _ (V_keep [0, 3] (by simp only [proj, lk, reduceIte, Nat.reduceEqDiff]; rfl) ?_)); clear hK5
    refine V_sr T.mix (by kernel_rfl) (fun K6 hK6 => ?_)
    refine S_mv rfl ?_
    refine S_mv rfl ?_
    refine S_copyx T.el49 rfl (k := xs.length) (by simp) ho1 hB1 (by rw [ints_len]; omega) (ints_one _) (fun h2 hB2 hE2 hz2 => ?_)
    refine S_nil (hK6 _ _ (V_keep [3] (by simp only [proj, lk, reduceIte, Nat.reduceEqDiff]; rfl) ?_)); clear hK6
    refine V_sr T.mix (by kernel_rfl) (fun K7 hK7 => ?_)
    refine S_mv rfl ?_
    refine S_as rfl ?_
    refine S_nil (hK7 _ _ (V_keep [2] (by simp only [proj, lk, reduceIte, Nat.reduceEqDiff]; rfl) ?_)); clear hK7
    refine V_ret ?_
    refine hR _ _ (ret1 rfl rfl ?_)
    refine ⟨some ⟨h.size, 0, none⟩, rfl, IL.new ?_, hE1.step hE2 (fun b hb e => by omega), fun e => by omega, fun b hb => by simp [blkA] at hb; omega⟩
    exact hB2.cong (arr_ext fun j hj => by rw [if_pos (by rw [ints_len]; exact hj)]; simp [ints, hj])
set_option maxHeartbeats 800000 in
theorem load_spec (h : Heap) (V P X C K : Nat) (la : Option Addr) (lc : Nat) (Q : SR) (lg : List Int) (W : WC) (s : TS) (p : Nat) (w : SX h V P X C K la lc Q lg W (fun _ => none) s p) (fa : Option Addr) (fc : Nat) (rows : List Rw) (hf : IL h fa fc (flatR rows)) (hN : NrmR rows) (hfl : (flatR rows).length ≤ 100000000) (hd : ∀ r ∈ rows, r.1 = false) (h40 : rows.length ≤ 40) (hfar : Far V X C K la fa) :
    FC Tryz.prog 58 (#[.pointer (some ⟨V, 0, none⟩), .slice fa (flatR rows).length fc] : Array Value) h fun rv h' => rv = .tuple #[] ∧ ∃ W', SX h' V P X C K la lc Q lg W' (CLj (rows.map (fun x => x.2)) rows.length) s p ∧ SEx V X C K h h' la la := by
  have hB := w.sb
  have hlt := w.lt
  have hcap := hf.cap
  refine FC_of [(0, .pointer (some ⟨V, 0, none⟩)), (1, .slice fa (flatR rows).length fc)] Tryz.func58 rfl Tryz.ntmps58 (by simp) rfl (fun R hR => ?_)
  refine V_sr T.mix (by kernel_rfl) (fun K1 hK1 => ?_)
  refine S_as rfl ?_
  refine S_nil (hK1 _ _ (V_keep [0, 1, 4] (by simp only [proj, lk, reduceIte, Nat.reduceEqDiff]; rfl) ?_)); clear hK1
  refine V_sr T.mix (by kernel_rfl) (fun K2 hK2 => ?_)
  refine S_as rfl ?_
  refine S_nil (hK2 _ _ (V_keep [0, 1, 4, 5] (by simp only [proj, lk, reduceIte, Nat.reduceEqDiff]; rfl) ?_)); clear hK2
  refine V_block ?_
  refine V_loop (fun m l h' => ∃ (i j k : Nat) (hk : Heap) (Wk : WC), (j ≤ rows.length) ∧ (i = (flatR (rows.take j)).length + k) ∧ (i ≤ (flatR rows).length) ∧ ((j < rows.length ∧ k ≤ (rows.getD j (false, [])).2.length) ∨ (j = rows.length ∧ k = 0)) ∧ (SX hk V P X C K la lc Q lg Wk (CLj (rows.map (fun x => x.2)) j) s p) ∧ (SEx V X C K h hk la la) ∧ m = (flatR rows).length - i ∧ l = [(0, .pointer (some ⟨V, 0, none⟩)), (1, .slice fa (flatR rows).length fc), (4, .int .i64 (((flatR (rows.take j)).length : Nat) : Int)), (5, .int .i64 (i : Int))] ∧ hk = h') _ ⟨0, 0, 0, h, W, by omega, by simp [flatR], by omega, by rcases Nat.eq_zero_or_pos rows.length with q | q; (exact .inr ⟨q.symm, rfl⟩); (exact .inl ⟨q, by omega⟩), w, SEx.refl _ _ _ _ _ _, rfl, rfl, rfl⟩ ?_
  rintro m l h' ⟨i, j, k, hk, Wk, hj, hik, hil, hk1, wk, hXk, rfl, rfl, rfl⟩ K3 hK3
  clear hB
  have hB := wk.sb
  have hsk := hXk.1.1
  refine V_seq (fun K4 hK4 => ?_)
  refine V_sr T.mix (by kernel_rfl) (fun K5 hK5 => ?_)
  refine S_mv rfl ?_
  refine S_mv rfl ?_
  refine S_lenl T.el49 rfl ?_
  refine S_bin rfl rfl rfl ?_
  refine S_nil (hK5 _ _ (V_keep [0, 1, 4, 5, 10] (by simp only [proj, lk, reduceIte, Nat.reduceEqDiff]; rfl) ?_)); clear hK5
  refine V_condp rfl (fun c61 => ?_) (fun c61 => ?_)
  · skip
    have hjl : j < rows.length := by rcases hk1 with q | q; (exact q.1); (exfalso; rw [q.1, List.take_length] at hik; omega)
    have hkl : k ≤ (rows.getD j (false, [])).2.length := by rcases hk1 with q | q; (exact q.2); (omega)
    have hle := fl_le hd hjl
    have hval := fl_at hN hd hjl hkl
    rw [← hik] at hval
    obtain ⟨hfk, hfark⟩ := hXk.il hf hfar
    obtain ⟨bb, rfl, _, hg, _⟩ := hfk.get (by omega)
    have hcc := hg i (by omega)
    refine V_skipk [0, 1, 4, 5] (by simp only [proj, lk, reduceIte, Nat.reduceEqDiff]; rfl) ?_
    refine hK4 _ _ ?_; clear hK4
    refine V_seq (fun K6 hK6 => ?_)
    refine V_block ?_
    refine V_sr T.mix (by kernel_rfl) (fun K7 hK7 => ?_)
    refine S_mv rfl ?_
    refine S_mv rfl ?_
    first | refine S_ixn T.el49 rfl rfl (by omega) ?_ | refine S_ix1 T.el49 rfl rfl (by omega) (by omega) ?_ | refine S_ix T.el49 rfl rfl (by omega) (by omega) ?_
    refine S_ldK T.ag3 rfl (fun K' hK' => ?_)
    simp (disch := omega) only [slP hB, slT hB, slW hB, slL hB, slLog hB, slAct hB, slPh hB, slInc hB, slAl hB, slCt hB, slCf hB, slRs hB, slSi hB, hcc, oP_some, Nat.add_zero]
    refine hK' _ ?_; clear hK' K'
    refine S_bin rfl rfl rfl ?_
    refine S_nil (hK7 _ _ (V_keep [0, 1, 4, 5, 17] (by simp only [proj, lk, reduceIte, Nat.reduceEqDiff]; rfl) ?_)); clear hK7
    refine V_condp rfl (fun c62 => ?_) (fun c62 => ?_)
    · skip
      have hke : k = (rows.getD j (false, [])).2.length := by rcases Nat.lt_or_ge k (rows.getD j (false, [])).2.length with q | q; (rw [hval, if_pos q] at c62; exact absurd c62 (gd_getD (hN _ (rmem hjl)).1 q).1); (omega)
      have hcl := (hN _ (rmem hjl)).len
      refine V_sr T.mix (by kernel_rfl) (fun K8 hK8 => ?_)
      refine S_mv rfl ?_
      refine S_mv rfl ?_
      refine S_mv rfl ?_
      refine S_sl rfl rfl rfl (sliceV_lh T.el49 (by omega) (by omega) (by omega)) ?_
      rw [show i - (flatR (rows.take j)).length = (rows.getD j (false, [])).2.length by omega, Nat.zero_add, Nat.mul_one]
      refine S_call T.hb87 rfl ?_
      have hsrc : ∀ h1, Ext (fun _ => False) hk h1 → srcV h1 1 (rows.getD j (false, [])).2.length (.slice (some ⟨bb, (flatR (rows.take j)).length, none⟩) (rows.getD j (false, [])).2.length (fc - (flatR (rows.take j)).length)) = some (ints (rows.getD j (false, [])).2) := by
        intro h1 e1
        show cellsH h1 ⟨bb, (flatR (rows.take j)).length, none⟩ 0 ((rows.getD j (false, [])).2.length * 1) = _
        rw [Nat.mul_one, ← ints_len (rows.getD j (false, [])).2]
        refine cells_of (ints (rows.getD j (false, [])).2) 0 (fun m hm => ?_)
        rw [ints_len] at hm
        have h9 := (hfk.ext e1 (fun _ _ f => f)).at (j := (flatR (rows.take j)).length + m) (by omega)
        rw [fl_at hN hd hjl (by omega), if_pos hm] at h9
        rw [Nat.add_zero, h9]
        exact (ints_at hm).symm
      refine FC.mono (copysub_spec hk (some ⟨bb, (flatR (rows.take j)).length, none⟩) _ (rows.getD j (false, [])).2 hsrc (by omega)) ?_
      rintro v' h1 ⟨a1, rfl, hI1, hE1, hn1, hb1⟩
      have w1 := wk.new hE1
      clear hB
      have hB := w1.sb
      refine S_as rfl ?_
      refine S_nil (hK8 _ _ (V_keep [0, 1, 5, 6] (by simp only [proj, lk, reduceIte, Nat.reduceEqDiff]; rfl) ?_)); clear hK8
      refine V_sr T.mix (by kernel_rfl) (fun K9 hK9 => ?_)
      refine S_mv rfl ?_
      refine S_nc rfl ?_
      first | refine S_fa0 T.f53_2 rfl ?_ | refine S_fa T.f53_2 rfl ?_
      refine S_ldK T.ag31 rfl (fun K' hK' => ?_)
      simp (disch := omega) only [slP hB, slT hB, slW hB, slL hB, slLog hB, slAct hB, slPh hB, slInc hB, slAl hB, slCt hB, slCf hB, slRs hB, slSi hB, hcc, oP_some, Nat.add_zero]
      refine hK' _ ?_; clear hK' K'
      refine S_mv rfl ?_
      refine S_call T.hb90 rfl ?_
      refine FC.mono (wadd_spec h1 C X Wk (CLj (rows.map (fun x => x.2)) j) s p w1.wx a1 _ (rows.getD j (false, [])).2 hI1 (by omega) (fun b e => by have h9 := hb1 b e; omega) false) ?_
      rintro v' h2 ⟨W2, rfl, hW2, _, _, hE2⟩
      have hcj := cs_at hjl
      rw [CLj_add (by rw [List.length_map]; exact hjl) (by rw [List.length_map]; exact h40) hcj (nrm_ccE (hN _ (rmem hjl)))] at hW2
      have w2 := w1.watch hE2 (fun b e => .inl e) hW2
      have hX2 : SEx V X C K h h2 la la := (hXk.put hE1 (fun k f => f.elim)).put hE2 (fun k e => .inr (.inr (.inl e)))
      refine S_nil (hK9 _ _ (V_keep [0, 1, 5] (by simp only [proj, lk, reduceIte, Nat.reduceEqDiff]; rfl) ?_)); clear hK9
      refine V_reg T.mix (by kernel_rfl) ?_
      refine S_mv rfl ?_
      first | refine S_add rfl rfl (by omega) (by omega) ?_ | refine S_bin rfl rfl rfl ?_
      refine S_as rfl ?_
      refine S_nilk [0, 1, 4, 5] (by simp only [proj, lk, reduceIte, Nat.reduceEqDiff]; rfl) ?_
      refine hK6 _ _ ?_; clear hK6
      refine V_reg T.mix (by kernel_rfl) ?_
      refine S_mv rfl ?_
      first | refine S_add rfl rfl (by omega) (by omega) ?_ | refine S_bin rfl rfl rfl ?_
      refine S_as rfl ?_
      refine S_nilk [0, 1, 4, 5] (by simp only [proj, lk, reduceIte, Nat.reduceEqDiff]; rfl) ?_
      have hnx := fl_next hd hjl
      exact hK3 _ _ ⟨_, by omega, i + 1, j + 1, 0, h2, W2, by omega, by omega, by omega, (by rcases Nat.lt_or_ge (j + 1) rows.length with q | q; (exact .inl ⟨q, by omega⟩); (exact .inr ⟨by omega, rfl⟩)), w2, hX2, rfl, (by rw [hnx, show (flatR (rows.take j)).length + (rows.getD j (false, [])).2.length + 1 = i + 1 by omega]; rfl), rfl⟩
    · skip
      refine V_skipk [0, 1, 4, 5] (by simp only [proj, lk, reduceIte, Nat.reduceEqDiff]; rfl) ?_
      refine hK6 _ _ ?_; clear hK6
      refine V_reg T.mix (by kernel_rfl) ?_
      refine S_mv rfl ?_
      first | refine S_add rfl rfl (by omega) (by omega) ?_ | refine S_bin rfl rfl rfl ?_
      refine S_as rfl ?_
      refine S_nilk [0, 1, 4, 5] (by simp only [proj, lk, reduceIte, Nat.reduceEqDiff]; rfl) ?_
      have hkn : k < (rows.getD j (false, [])).2.length := by rcases Nat.lt_or_ge k (rows.getD j (false, [])).2.length with q | q; (exact q); (rw [hval, if_neg (by omega)] at c62; exact absurd rfl c62)
      exact hK3 _ _ ⟨_, by omega, i + 1, j, k + 1, hk, Wk, hj, by omega, by omega, .inl ⟨hjl, by omega⟩, wk, hXk, rfl, rfl, rfl⟩
  · skip
    have hcc := slP hB
    refine V_exitk [] rfl (by simp only [proj, lk, reduceIte, Nat.reduceEqDiff]; rfl) ?_
    -- end
    refine hR _ _ (ret0 rfl ?_)
    have hje : j = rows.length := by rcases hk1 with q | q; (have h9 := fl_le hd q.1; omega); (exact q.1)
    rw [hje] at wk
    exact ⟨rfl, Wk, wk, hXk⟩
set_option maxHeartbeats 1600000 in
set_option maxRecDepth 100000 in
theorem xnew_spec (h : Heap) (P X C K : Nat) :
    FC Tryz.prog 12 (#[.pointer (some ⟨P, 0, none⟩), .pointer (some ⟨X, 0, none⟩), .pointer (some ⟨C, 0, none⟩), .pointer (some ⟨K, 0, none⟩)] : Array Value) h fun v h' => v = .pointer (some ⟨h.size, 0, none⟩) ∧ ∃ F : Nat → Int, SB h' h.size P X C K none 0 0 ⟨fun _ => 0, F, 1, 0, 0, 0, 0, 0⟩ ∧ (∀ v, v < 13 → F v = -1) ∧ Ext (fun _ => False) h h' := by
  refine FC_of [(0, .pointer (some ⟨P, 0, none⟩)), (1, .pointer (some ⟨X, 0, none⟩)), (2, .pointer (some ⟨C, 0, none⟩)), (3, .pointer (some ⟨K, 0, none⟩))] Tryz.func12 rfl Tryz.ntmps12 (by simp) rfl (fun R hR => ?_)
  refine V_sr T.mix (by kernel_rfl) (fun K1 hK1 => ?_)
  refine S_as rfl ?_
  refine S_nil (hK1 _ _ (V_keep [0, 1, 2, 3] (by simp only [proj, lk, reduceIte, Nat.reduceEqDiff]; rfl) ?_)); clear hK1
  refine V_sr T.mix (by kernel_rfl) (fun K2 hK2 => ?_)
  refine S_mv rfl ?_
  refine S_mv rfl ?_
  refine S_mv rfl ?_
  refine S_mv rfl ?_
  refine S_bld rfl (T.bld53_0_1_2_3_7 _ _ _ _ _) ?_
  refine S_boxA rfl ?_
  generalize hh : Array.push h _ = h1
  have hB0 : SB h1 h.size P X C K none 0 0 S0 := by rw [← hh]; exact (B.new h _ 53).cong (by kernel_rfl)
  have hE1 : Ext (fun _ => False) h h1 := by rw [← hh]; exact Ext.push _ _ _
  clear hh
  generalize hX : h.size = V at hB0 ⊢
  refine S_as rfl ?_
  refine S_nil (hK2 _ _ (V_keep [9] (by simp only [proj, lk, reduceIte, Nat.reduceEqDiff]; rfl) ?_)); clear hK2
  refine V_seq (fun K3 hK3 => ?_)
  refine V_sr T.mix (by kernel_rfl) (fun K4 hK4 => ?_)
  refine S_as rfl ?_
  refine S_nil (hK4 _ _ (V_keep [9, 10] (by simp only [proj, lk, reduceIte, Nat.reduceEqDiff]; rfl) ?_)); clear hK4
  refine V_block ?_
  refine V_loop (fun m l h' => ∃ (i : Nat) (hk : Heap) (F : Nat → Int), (i ≤ 13) ∧ (SB hk V P X C K none 0 0 ⟨fun _ => 0, F, 1, 0, 0, 0, 0, 0⟩) ∧ (∀ v, v < i → F v = -1) ∧ (Ext (fun x => x = V) h1 hk) ∧ m = 13 - i ∧ l = [(9, .pointer (some ⟨V, 0, none⟩)), (10, .int .i64 (i : Int))] ∧ hk = h') _ ⟨0, h1, fun _ => 0, by omega, hB0, fun v hv => by omega, Ext.refl _ _, rfl, rfl, rfl⟩ ?_
  rintro m l h' ⟨i, hk, F, hi, hBk, hF, hEk, rfl, rfl, rfl⟩ K5 hK5
  have hB := hBk
  refine V_seq (fun K6 hK6 => ?_)
  refine V_sr T.mix (by kernel_rfl) (fun K7 hK7 => ?_)
  refine S_mv rfl ?_
  refine S_bin rfl rfl rfl ?_
  refine S_nil (hK7 _ _ (V_keep [9, 10, 18] (by simp only [proj, lk, reduceIte, Nat.reduceEqDiff]; rfl) ?_)); clear hK7
  refine V_condp rfl (fun c35 => ?_) (fun c35 => ?_)
  · skip
    refine V_skipk [9, 10] (by simp only [proj, lk, reduceIte, Nat.reduceEqDiff]; rfl) ?_
    refine hK6 _ _ ?_; clear hK6
    refine V_seq (fun K8 hK8 => ?_)
    refine V_block ?_
    refine V_reg T.mix (by kernel_rfl) ?_
    refine S_mv rfl ?_
    refine S_mv rfl ?_
    refine S_nc rfl ?_
    first | refine S_fa0 T.f53_6 rfl ?_ | refine S_fa T.f53_6 rfl ?_
    first | refine S_ixan T.ar50 rfl rfl (by omega) ?_ | refine S_ixa1 T.ar50 rfl rfl (by omega) (by omega) ?_
    refine S_st T.sz3 rfl rfl rfl rfl (by simp (disch := omega) only [sok hB]) ?_
    generalize hh : putH _ _ _ = h2
    have hB2 : SB h2 V P X C K none 0 0 ⟨fun _ => 0, upI F i (-1), 1, 0, 0, 0, 0, 0⟩ := by rw [← hh]; exact ssPh hB i (-1) (by omega)
    have hE2 : Ext (fun x => x = V) hk h2 := by rw [← hh]; exact Ext.put _ _ rfl
    clear hh
    refine S_nilk [9, 10] (by simp only [proj, lk, reduceIte, Nat.reduceEqDiff]; rfl) ?_
    refine hK8 _ _ ?_; clear hK8
    refine V_reg T.mix (by kernel_rfl) ?_
    refine S_mv rfl ?_
    first | refine S_add rfl rfl (by omega) (by omega) ?_ | refine S_bin rfl rfl rfl ?_
    refine S_as rfl ?_
    refine S_nilk [9, 10] (by simp only [proj, lk, reduceIte, Nat.reduceEqDiff]; rfl) ?_
    exact hK5 _ _ ⟨_, by omega, i + 1, h2, _, by omega, hB2, fun v hv => by simp only [upI]; split; (rfl); (exact hF v (by omega)), hEk.trans hE2, rfl, rfl, rfl⟩
  · skip
    refine V_exitk [9] rfl (by simp only [proj, lk, reduceIte, Nat.reduceEqDiff]; rfl) ?_
    refine hK3 _ _ ?_; clear hK3
    refine V_sr T.mix (by kernel_rfl) (fun K9 hK9 => ?_)
    refine S_mv rfl ?_
    refine S_as rfl ?_
    refine S_nil (hK9 _ _ (V_keep [8] (by simp only [proj, lk, reduceIte, Nat.reduceEqDiff]; rfl) ?_)); clear hK9
    refine V_ret ?_
    refine hR _ _ (ret1 rfl rfl ?_)
    subst hX
    exact ⟨rfl, F, hBk, fun v hv => hF v (by omega), hE1.step hEk (fun b hb e => by omega)⟩
set_option maxHeartbeats 1600000 in
theorem forget_spec (h : Heap) (V P X C K : Nat) (la : Option Addr) (lc : Nat) (Q : SR) (lr : List Rw) (W : WC) (cl : Nat → Option (List Int)) (s : TS) (p : Nat) (w : SX h V P X C K la lc Q (flatR lr) W cl s p) (cs : Sto) (g : Ans) (r n f : Nat) (fi : FI cs cl s g r n f lr 0) (al : AL Q cl) :
    FC Tryz.prog 96 (#[.pointer (some ⟨V, 0, none⟩)] : Array Value) h fun rv h' => rv = .tuple #[] ∧ ∃ la' lc' Q' lr' W' cl' k, SX h' V P X C K la' lc' Q' (flatR lr') W' cl' s p ∧ FI cs cl' s g r n f lr' k ∧ (k = 12 ∨ aL cl' ≤ 11) ∧ AL Q' cl' ∧ Kf Q Q' ∧ SEx V X C K h h' la la' := by
  have hB := w.sb
  have hct := al.ct
  refine FC_of [(0, .pointer (some ⟨V, 0, none⟩))] Tryz.func96 rfl Tryz.ntmps96 (by simp) rfl (fun R hR => ?_)
  refine V_seq (fun K1 hK1 => ?_)
  refine V_sr T.mix (by kernel_rfl) (fun K2 hK2 => ?_)
  refine S_mv rfl ?_
  refine S_nc rfl ?_
  first | refine S_fa0 T.f53_9 rfl ?_ | refine S_fa T.f53_9 rfl ?_
  refine S_ldK T.ag3 rfl (fun K' hK' => ?_)
  simp (disch := omega) only [slP hB, slT hB, slW hB, slL hB, slLog hB, slAct hB, slPh hB, slInc hB, slAl hB, slCt hB, slCf hB, slRs hB, slSi hB, oP_some, Nat.add_zero]
  refine hK' _ ?_; clear hK' K'
  refine S_bin rfl rfl rfl ?_
  refine S_nil (hK2 _ _ (V_keep [0, 12] (by simp only [proj, lk, reduceIte, Nat.reduceEqDiff]; rfl) ?_)); clear hK2
  refine V_condp rfl (fun c36 => ?_) (fun c36 => ?_)
  · skip
    refine V_ret ?_
    refine hR _ _ (ret0 rfl ?_)
    exact ⟨rfl, la, lc, Q, lr, W, cl, 0, w, fi, .inr (by omega), al, ⟨rfl, rfl, rfl, rfl, rfl, rfl⟩, SEx.refl _ _ _ _ _ _⟩
  · skip
    refine V_skipk [0] (by simp only [proj, lk, reduceIte, Nat.reduceEqDiff]; rfl) ?_
    refine hK1 _ _ ?_; clear hK1
    refine V_sr T.mix (by kernel_rfl) (fun K3 hK3 => ?_)
    refine S_as rfl ?_
    refine S_nil (hK3 _ _ (V_keep [0, 2] (by simp only [proj, lk, reduceIte, Nat.reduceEqDiff]; rfl) ?_)); clear hK3
    refine V_block ?_
    refine V_loop (fun m l h' => ∃ (k : Nat) (hk : Heap) (lak : Option Addr) (lck : Nat) (Qk : SR) (lrk : List Rw) (Wk : WC) (clk : Nat → Option (List Int)), (k ≤ 12) ∧ (SX hk V P X C K lak lck Qk (flatR lrk) Wk clk s p) ∧ (FI cs clk s g r n f lrk k) ∧ (AL Qk clk) ∧ (Kf Q Qk) ∧ (SEx V X C K h hk la lak) ∧ m = 12 - k ∧ l = [(0, .pointer (some ⟨V, 0, none⟩)), (2, .int .i64 (k : Int))] ∧ hk = h') _ ⟨0, h, la, lc, Q, lr, W, cl, by omega, w, fi, al, ⟨rfl, rfl, rfl, rfl, rfl, rfl⟩, SEx.refl _ _ _ _ _ _, rfl, rfl, rfl⟩ ?_
    rintro m l h' ⟨k, hk, lak, lck, Qk, lrk, Wk, clk, hk12, wk, fik, alk, kfk, hXk, rfl, rfl, rfl⟩ K4 hK4
    clear hB
    have hB := wk.sb
    have hsk := hXk.1.1
    have hctk := alk.ct
    have hlt := wk.lt
    refine V_seq (fun K5 hK5 => ?_)
    refine V_sr T.mix (by kernel_rfl) (fun K6 hK6 => ?_)
    refine S_mv rfl ?_
    refine S_bin rfl rfl rfl ?_
    refine S_mv rfl ?_
    refine S_dec (fun g39 => ?_) (fun g39 => ?_)
    · skip
      refine S_gt rfl ?_
      refine S_mv rfl ?_
      refine S_gt rfl ?_
      refine S_nc rfl ?_
      refine S_gt rfl ?_
      first | refine S_fa0 T.f53_9 rfl ?_ | refine S_fa T.f53_9 rfl ?_
      refine S_gt rfl ?_
      refine S_ldK T.ag3 rfl (fun K' hK' => ?_)
      simp (disch := omega) only [slP hB, slT hB, slW hB, slL hB, slLog hB, slAct hB, slPh hB, slInc hB, slAl hB, slCt hB, slCf hB, slRs hB, slSi hB, oP_some, Nat.add_zero]
      refine hK' _ ?_; clear hK' K'
      refine S_gt rfl ?_
      refine S_bin rfl rfl rfl ?_
      refine S_pt rfl rfl ?_
      refine S_nil (hK6 _ _ (V_keep [0, 2, 21] (by simp only [proj, lk, reduceIte, Nat.reduceEqDiff]; rfl) ?_)); clear hK6
      refine V_condp rfl (fun c39 => ?_) (fun c39 => ?_)
      · skip
        refine V_skipk [0, 2] (by simp only [proj, lk, reduceIte, Nat.reduceEqDiff]; rfl) ?_
        refine hK5 _ _ ?_; clear hK5
        refine V_seq (fun K7 hK7 => ?_)
        refine V_block ?_
        refine V_sr T.mix (by kernel_rfl) (fun K8 hK8 => ?_)
        refine S_mv rfl ?_
        first | refine S_cvn T.us3 T.in57 rfl rfl (by first | omega | (simp only [IntKind.bits]; omega)) ?_ | refine S_cvu T.us3 T.in57 rfl (by omega) (by omega) ?_ | refine S_cv T.us3 T.in57 rfl ?_
        refine S_nshl 1 k (2 ^ k) rfl rfl rfl rfl (Nat.one_mul _) (show k ≤ 16 by omega) (t16 (p12 (by omega))) ?_
        refine S_as rfl ?_
        refine S_nil (hK8 _ _ (V_keep [0, 2, 3] (by simp only [proj, lk, reduceIte, Nat.reduceEqDiff]; rfl) ?_)); clear hK8
        refine V_sr T.mix (by kernel_rfl) (fun K9 hK9 => ?_)
        refine S_mv rfl ?_
        refine S_nc rfl ?_
        first | refine S_fa0 T.f53_8 rfl ?_ | refine S_fa T.f53_8 rfl ?_
        refine S_ldK T.ag51 rfl (fun K' hK' => ?_)
        simp (disch := omega) only [slP hB, slT hB, slW hB, slL hB, slLog hB, slAct hB, slPh hB, slInc hB, slAl hB, slCt hB, slCf hB, slRs hB, slSi hB, oP_some, Nat.add_zero]
        refine hK' _ ?_; clear hK' K'
        refine S_mv rfl ?_
        refine S_nand Qk.al (2 ^ k) _ rfl rfl rfl rfl rfl (t16 alk.lt) (t16 (p12 (by omega))) ?_
        refine S_bin rfl rfl rfl ?_
        refine S_nil (hK9 _ _ (V_keep [0, 2, 3, 33] (by simp only [proj, lk, reduceIte, Nat.reduceEqDiff]; rfl) ?_)); clear hK9
        refine V_condp rfl (fun c41 => ?_) (fun c41 => ?_)
        · skip
          have hbk := al_and.1 c41
          rw [alk.bit k (by omega)] at hbk
          obtain ⟨c, hc⟩ := Option.isSome_iff_exists.1 hbk
          have hid : ((40 + k : Nat) : Int) = (40 + (k : Int)) := by omega
          have hlc : liveC clk (40 + (k : Int)) = some c := by rw [← hid]; unfold liveC; rw [if_pos (by omega), Int.toNat_natCast]; exact hc
          have hcf : clF clk (40 + (k : Int)) = c := by unfold clF; rw [hlc]; rfl
          have hnc := fik.ci.nl _ (by omega) c hc
          have hcl := hnc.len
          have hfl := fik.ln
          have hff := fik.f6
          refine V_sr T.mix (by kernel_rfl) (fun K10 hK10 => ?_)
          refine S_mv rfl ?_
          first | refine S_add rfl rfl (by omega) (by omega) ?_ | refine S_bin rfl rfl rfl ?_
          refine S_as rfl ?_
          refine S_nil (hK10 _ _ (V_keep [0, 2, 3, 4] (by simp only [proj, lk, reduceIte, Nat.reduceEqDiff]; rfl) ?_)); clear hK10
          refine V_sr T.mix (by kernel_rfl) (fun K11 hK11 => ?_)
          refine S_mv rfl ?_
          refine S_nc rfl ?_
          first | refine S_fa0 T.f53_2 rfl ?_ | refine S_fa T.f53_2 rfl ?_
          refine S_ldK T.ag31 rfl (fun K' hK' => ?_)
          simp (disch := omega) only [slP hB, slT hB, slW hB, slL hB, slLog hB, slAct hB, slPh hB, slInc hB, slAl hB, slCt hB, slCf hB, slRs hB, slSi hB, oP_some, Nat.add_zero]
          refine hK' _ ?_; clear hK' K'
          refine S_mv rfl ?_
          refine S_call T.hb15 rfl ?_
          refine FC.mono (wclause_spec hk C X Wk clk s p wk.wx (40 + (k : Int))) ?_
          rw [hcf]
          rintro v' h1 ⟨a1, rfl, hI1, hn1, hb1, hE1⟩
          have w1 := wk.new hE1
          clear hB
          have hB := w1.sb
          have hs1 := hE1.1
          refine S_mv rfl ?_
          refine S_ex rfl rfl ?_
          refine S_ex rfl rfl ?_
          refine S_as rfl ?_
          refine S_as rfl ?_
          refine S_nil (hK11 _ _ (V_keep [0, 2, 3, 4, 5] (by simp only [proj, lk, reduceIte, Nat.reduceEqDiff]; rfl) ?_)); clear hK11
          refine V_sr T.mix (by kernel_rfl) (fun K12 hK12 => ?_)
          refine S_mv rfl ?_
          refine S_nc rfl ?_
          first | refine S_fa0 T.f53_2 rfl ?_ | refine S_fa T.f53_2 rfl ?_
          refine S_ldK T.ag31 rfl (fun K' hK' => ?_)
          simp (disch := omega) only [slP hB, slT hB, slW hB, slL hB, slLog hB, slAct hB, slPh hB, slInc hB, slAl hB, slCt hB, slCf hB, slRs hB, slSi hB, oP_some, Nat.add_zero]
          refine hK' _ ?_; clear hK' K'
          refine S_mv rfl ?_
          refine S_call T.hb130 rfl ?_
          refine FC.mono (wremove_spec h1 C X Wk clk s p w1.wx (40 + (k : Int))) ?_
          rintro v' h2 ⟨W2, rfl, hW2, _, _, hE2⟩
          have w2 := w1.watch hE2 (fun b e => .inl e) hW2
          clear hB
          have hB := w2.sb
          have hI2 := hI1.ext hE2 (fun b e f => by have h9 := hb1 b e; omega)
          have hX2 : SEx V X C K h h2 la lak := (hXk.put hE1 (fun k f => f.elim)).put hE2 (fun k e => .inr (.inr (.inl e)))
          refine S_as rfl ?_
          refine S_nil (hK12 _ _ (V_keep [0, 2, 3, 5, 7] (by simp only [proj, lk, reduceIte, Nat.reduceEqDiff]; rfl) ?_)); clear hK12
          refine V_sr T.mix (by kernel_rfl) (fun K13 hK13 => ?_)
          refine S_mv rfl ?_
          refine S_bin rfl rfl rfl ?_
          refine S_nil (hK13 _ _ (V_keep [0, 2, 3, 5, 52] (by simp only [proj, lk, reduceIte, Nat.reduceEqDiff]; rfl) ?_)); clear hK13
          refine V_condp rfl (fun c45 => ?_) (fun c45 => ?_)
          · skip
            have hrv : remV clk s ((40 + k : Nat) : Int) = 0 := by rw [hid]; omega
            obtain ⟨fin, hal5⟩ := fik.rem (by omega) hc hrv
            refine V_sr T.mix (by kernel_rfl) (fun K14 hK14 => ?_)
            refine S_mv rfl ?_
            refine S_mv rfl ?_
            refine S_call T.hb94 rfl ?_
            refine FC.mono (note_spec h2 V P X C K lak lck Qk (flatR lrk) W2 _ s p w2 (by omega) true a1 _ c hI2 hcl (fun z e => ⟨fun f => by have h9 := hb1 z e; omega, fun q => by have h9 := hb1 z e; have h8 := (OwnR.blk2 wk.lo q).2; omega⟩)) ?_
            rintro v' h3 ⟨rfl, la3, lc3, w3, hX3, _⟩
            clear hB
            have hB := w3.sb
            have hX23 := hX2.trans hX3
            refine S_nil (hK14 _ _ (V_keep [0, 2, 3] (by simp only [proj, lk, reduceIte, Nat.reduceEqDiff]; rfl) ?_)); clear hK14
            refine V_sr T.mix (by kernel_rfl) (fun K15 hK15 => ?_)
            refine S_mv rfl ?_
            refine S_mv rfl ?_
            refine S_nc rfl ?_
            first | refine S_fa0 T.f53_8 rfl ?_ | refine S_fa T.f53_8 rfl ?_
            refine S_ldK T.ag51 rfl (fun K' hK' => ?_)
            simp (disch := omega) only [slP hB, slT hB, slW hB, slL hB, slLog hB, slAct hB, slPh hB, slInc hB, slAl hB, slCt hB, slCf hB, slRs hB, slSi hB, oP_some, Nat.add_zero]
            refine hK' _ ?_; clear hK' K'
            refine S_mv rfl ?_
            refine S_nandn Qk.al (2 ^ k) rfl rfl rfl rfl rfl (b16 alk.lt) (b16 (p12 (by omega))) ?_
            refine S_nc rfl ?_
            first | refine S_fa0 T.f53_8 rfl ?_ | refine S_fa T.f53_8 rfl ?_
            refine S_st T.sz51 rfl rfl rfl rfl (by simp (disch := omega) only [sok hB]) ?_
            generalize hh : putH _ _ _ = h4
            have hB4 : SB h4 V P X C K la3 (flatR lrk ++ oneR (true, c)).length lc3 { Qk with al := wo Qk.al (2 ^ k) } := by rw [← hh]; exact ssAl hB _
            have hE4 : Ext (fun z => z = V) h3 h4 := by rw [← hh]; exact Ext.put _ _ rfl
            clear hh
            clear hB
            have hB := hB4
            refine S_nil (hK15 _ _ (V_keep [0, 2] (by simp only [proj, lk, reduceIte, Nat.reduceEqDiff]; rfl) ?_)); clear hK15
            refine V_reg T.mix (by kernel_rfl) ?_
            refine S_mv rfl ?_
            refine S_nc rfl ?_
            first | refine S_fa0 T.f53_9 rfl ?_ | refine S_fa T.f53_9 rfl ?_
            refine S_ldK T.ag3 rfl (fun K' hK' => ?_)
            simp (disch := omega) only [slP hB, slT hB, slW hB, slL hB, slLog hB, slAct hB, slPh hB, slInc hB, slAl hB, slCt hB, slCf hB, slRs hB, slSi hB, oP_some, Nat.add_zero]
            refine hK' _ ?_; clear hK' K'
            first | refine S_sub rfl rfl (by omega) (by omega) ?_ | refine S_bin rfl rfl rfl ?_
            refine S_nc rfl ?_
            first | refine S_fa0 T.f53_9 rfl ?_ | refine S_fa T.f53_9 rfl ?_
            refine S_st T.sz3 rfl rfl rfl rfl (by simp (disch := omega) only [sok hB]) ?_
            rw [show ((Qk.ct : Int) - 1) = ((Qk.ct - 1 : Nat) : Int) by omega]
            generalize hh : putH _ _ _ = h5
            have hB5 : SB h5 V P X C K la3 (flatR lrk ++ oneR (true, c)).length lc3 { Qk with al := wo Qk.al (2 ^ k), ct := Qk.ct - 1 } := by rw [← hh]; exact ssCt hB _
            have hE5 : Ext (fun z => z = V) h4 h5 := by rw [← hh]; exact Ext.put _ _ rfl
            clear hh
            have w5 := (w3.own hE4 hB4).own hE5 hB5
            rw [← flatR_one, ← flatR_app, ← hid] at w5
            have hX5 := (hX23.put hE4 (fun k e => .inl e)).put hE5 (fun k e => .inl e)
            have al5 := alk.rem (k := k) (n := Qk.ct - 1) (cl' := remS clk s ((40 + k : Nat) : Int)) (by unfold remS; rw [if_pos hrv, Int.toNat_natCast]) (by omega)
            have kf5 : Kf Q { Qk with al := wo Qk.al (2 ^ k), ct := Qk.ct - 1 } := kfk
            refine S_nilk [0, 2] (by simp only [proj, lk, reduceIte, Nat.reduceEqDiff]; rfl) ?_
            refine hK7 _ _ ?_; clear hK7
            refine V_reg T.mix (by kernel_rfl) ?_
            refine S_mv rfl ?_
            first | refine S_add rfl rfl (by omega) (by omega) ?_ | refine S_bin rfl rfl rfl ?_
            refine S_as rfl ?_
            refine S_nilk [0, 2] (by simp only [proj, lk, reduceIte, Nat.reduceEqDiff]; rfl) ?_
            exact hK4 _ _ ⟨_, by omega, k + 1, h5, la3, lc3, _, _, W2, _, by omega, w5, fin, al5, kf5, hX5, rfl, rfl, rfl⟩
          · skip
            have hrv : remV clk s ((40 + k : Nat) : Int) ≠ 0 := by rw [hid]; omega
            have hre : remS clk s (40 + (k : Int)) = clk := by unfold remS; rw [if_neg (by rw [← hid]; exact hrv)]
            refine V_skipk [0, 2] (by simp only [proj, lk, reduceIte, Nat.reduceEqDiff]; rfl) ?_
            refine hK7 _ _ ?_; clear hK7
            refine V_reg T.mix (by kernel_rfl) ?_
            refine S_mv rfl ?_
            first | refine S_add rfl rfl (by omega) (by omega) ?_ | refine S_bin rfl rfl rfl ?_
            refine S_as rfl ?_
            refine S_nilk [0, 2] (by simp only [proj, lk, reduceIte, Nat.reduceEqDiff]; rfl) ?_
            exact hK4 _ _ ⟨_, by omega, k + 1, h2, lak, lck, Qk, lrk, W2, clk, by omega, (by rw [hre] at w2; exact w2), fik.keep (fun _ => hrv), alk, kfk, hX2, rfl, rfl, rfl⟩
        · skip
          have hns : ¬ (clk (40 + k)).isSome = true := fun q => c41 (al_and.2 (by rw [alk.bit k (by omega)]; exact q))
          refine V_skipk [0, 2] (by simp only [proj, lk, reduceIte, Nat.reduceEqDiff]; rfl) ?_
          refine hK7 _ _ ?_; clear hK7
          refine V_reg T.mix (by kernel_rfl) ?_
          refine S_mv rfl ?_
          first | refine S_add rfl rfl (by omega) (by omega) ?_ | refine S_bin rfl rfl rfl ?_
          refine S_as rfl ?_
          refine S_nilk [0, 2] (by simp only [proj, lk, reduceIte, Nat.reduceEqDiff]; rfl) ?_
          exact hK4 _ _ ⟨_, by omega, k + 1, hk, lak, lck, Qk, lrk, Wk, clk, by omega, wk, fik.keep (fun q => absurd q hns), alk, kfk, hXk, rfl, rfl, rfl⟩
      · skip
        refine V_exitk [] rfl (by simp only [proj, lk, reduceIte, Nat.reduceEqDiff]; rfl) ?_
        -- end
        refine hR _ _ (ret0 rfl ?_)
        exact ⟨rfl, lak, lck, Qk, lrk, Wk, clk, k, wk, fik, by omega, alk, kfk, hXk⟩
    · skip
      refine S_gf rfl ?_
      refine S_gf rfl ?_
      refine S_gf rfl ?_
      refine S_gf rfl ?_
      refine S_gf rfl ?_
      refine S_pf rfl rfl ?_
      refine S_nil (hK6 _ _ (V_keep [0, 2, 21] (by simp only [proj, lk, reduceIte, Nat.reduceEqDiff]; rfl) ?_)); clear hK6
      refine V_condf rfl ?_
      refine V_exitk [] rfl (by simp only [proj, lk, reduceIte, Nat.reduceEqDiff]; rfl) ?_
      -- end
      refine hR _ _ (ret0 rfl ?_)
      exact ⟨rfl, lak, lck, Qk, lrk, Wk, clk, k, wk, fik, by omega, alk, kfk, hXk⟩
set_option maxHeartbeats 1600000 in
theorem xcheck_spec (h : Heap) (V P X C K : Nat) (la : Option Addr) (lc : Nat) (Q : SR)  (W : WC) (cl : Nat → Option (List Int)) (s : TS) (p : Nat) (w : SX h V P X C K la lc Q [] W cl s p) (ai : AI Q) (al : AL Q cl) (hr : Q.rs ≤ 4) (hs : Q.si ≤ Q.cf) (hc : Q.cf ≤ 4106) (hn : Q.rs < 4 → Q.si ≤ Q.rs) :
    FC Tryz.prog 8 (#[.pointer (some ⟨V, 0, none⟩)] : Array Value) h fun rv h' => rv = .bool true ∧ Ext (fun _ => False) h h' := by
  have hB := w.sb
  have ha0 := ai.a0
  have hp0 := ai.p0
  have hi1 := ai.i1
  have hi2 := ai.i2
  have hct := al.ct
  have hal := al.lt
  have hacl := aL_le cl
  have hiv : ivF Q.rs ≤ 5 ∧ (0 < ivF Q.rs ↔ Q.rs < 4) ∧ (Q.rs < 4 → ivF Q.rs = Q.rs + 1) := by unfold ivF; split <;> omega
  have hdv : Q.al / 2 ^ 12 = 0 := Nat.div_eq_of_lt (by omega)
  refine FC_of [(0, .pointer (some ⟨V, 0, none⟩))] Tryz.func8 rfl Tryz.ntmps8 (by simp) rfl (fun R hR => ?_)
  refine V_sr T.mix (by kernel_rfl) (fun K1 hK1 => ?_)
  refine S_as rfl ?_
  refine S_nil (hK1 _ _ (V_keep [0] (by simp only [proj, lk, reduceIte, Nat.reduceEqDiff]; rfl) ?_)); clear hK1
  refine V_seq (fun K2 hK2 => ?_)
  refine V_sr T.mix (by kernel_rfl) (fun K3 hK3 => ?_)
  refine S_mv rfl ?_
  refine S_nc rfl ?_
  first | refine S_fa0 T.f53_4 rfl ?_ | refine S_fa T.f53_4 rfl ?_
  refine S_ldK T.ag49 rfl (fun K' hK' => ?_)
  simp (disch := omega) only [slP hB, slT hB, slW hB, slL hB, slLog hB, slAct hB, slPh hB, slInc hB, slAl hB, slCt hB, slCf hB, slRs hB, slSi hB, oP_some, Nat.add_zero]
  refine hK' _ ?_; clear hK' K'
  refine S_lenl T.el49 rfl ?_
  refine S_bin rfl rfl rfl ?_
  refine S_nil (hK3 _ _ (V_keep [0, 15] (by simp only [proj, lk, reduceIte, Nat.reduceEqDiff]; rfl) ?_)); clear hK3
  refine V_condp rfl (fun c28 => ?_) (fun c28 => ?_)
  · skip
    refine V_sr T.mix (by kernel_rfl) (fun K4 hK4 => ?_)
    refine S_as rfl ?_
    refine S_nil (hK4 _ _ (V_keep [2] (by simp only [proj, lk, reduceIte, Nat.reduceEqDiff]; rfl) ?_)); clear hK4
    refine V_ret ?_
    refine hR _ _ (ret1 rfl rfl ?_)
    first | (exfalso; omega) | (exfalso; simp_all; done) | exact ⟨rfl, hEk⟩
  · skip
    refine V_skipk [0] (by simp only [proj, lk, reduceIte, Nat.reduceEqDiff]; rfl) ?_
    refine hK2 _ _ ?_; clear hK2
    refine V_seq (fun K5 hK5 => ?_)
    refine V_sr T.mix (by kernel_rfl) (fun K6 hK6 => ?_)
    refine S_mv rfl ?_
    refine S_nc rfl ?_
    first | refine S_fa0 T.f53_7 rfl ?_ | refine S_fa T.f53_7 rfl ?_
    refine S_ldK T.ag3 rfl (fun K' hK' => ?_)
    simp (disch := omega) only [slP hB, slT hB, slW hB, slL hB, slLog hB, slAct hB, slPh hB, slInc hB, slAl hB, slCt hB, slCf hB, slRs hB, slSi hB, oP_some, Nat.add_zero]
    refine hK' _ ?_; clear hK' K'
    refine S_bin rfl rfl rfl ?_
    refine S_mv rfl ?_
    refine S_dec (fun g31 => ?_) (fun g31 => ?_)
    · skip
      refine S_gf rfl ?_
      refine S_gf rfl ?_
      refine S_gf rfl ?_
      refine S_gf rfl ?_
      refine S_gf rfl ?_
      refine S_pt rfl rfl ?_
      refine S_nil (hK6 _ _ (V_keep [0, 27] (by simp only [proj, lk, reduceIte, Nat.reduceEqDiff]; rfl) ?_)); clear hK6
      refine V_condt rfl ?_
      refine V_sr T.mix (by kernel_rfl) (fun K7 hK7 => ?_)
      refine S_as rfl ?_
      refine S_nil (hK7 _ _ (V_keep [2] (by simp only [proj, lk, reduceIte, Nat.reduceEqDiff]; rfl) ?_)); clear hK7
      refine V_ret ?_
      refine hR _ _ (ret1 rfl rfl ?_)
      first | (exfalso; omega) | (exfalso; simp_all; done) | exact ⟨rfl, hEk⟩
    · skip
      refine S_gt rfl ?_
      refine S_mv rfl ?_
      refine S_gt rfl ?_
      refine S_nc rfl ?_
      refine S_gt rfl ?_
      first | refine S_fa0 T.f53_7 rfl ?_ | refine S_fa T.f53_7 rfl ?_
      refine S_gt rfl ?_
      refine S_ldK T.ag3 rfl (fun K' hK' => ?_)
      simp (disch := omega) only [slP hB, slT hB, slW hB, slL hB, slLog hB, slAct hB, slPh hB, slInc hB, slAl hB, slCt hB, slCf hB, slRs hB, slSi hB, oP_some, Nat.add_zero]
      refine hK' _ ?_; clear hK' K'
      refine S_gt rfl ?_
      refine S_bin rfl rfl rfl ?_
      refine S_pf rfl rfl ?_
      refine S_nil (hK6 _ _ (V_keep [0, 27] (by simp only [proj, lk, reduceIte, Nat.reduceEqDiff]; rfl) ?_)); clear hK6
      refine V_condp rfl (fun c31 => ?_) (fun c31 => ?_)
      · skip
        refine V_sr T.mix (by kernel_rfl) (fun K8 hK8 => ?_)
        refine S_as rfl ?_
        refine S_nil (hK8 _ _ (V_keep [2] (by simp only [proj, lk, reduceIte, Nat.reduceEqDiff]; rfl) ?_)); clear hK8
        refine V_ret ?_
        refine hR _ _ (ret1 rfl rfl ?_)
        first | (exfalso; omega) | (exfalso; simp_all; done) | exact ⟨rfl, hEk⟩
      · skip
        refine V_skipk [0] (by simp only [proj, lk, reduceIte, Nat.reduceEqDiff]; rfl) ?_
        refine hK5 _ _ ?_; clear hK5
        refine V_seq (fun K9 hK9 => ?_)
        refine V_sr T.mix (by kernel_rfl) (fun K10 hK10 => ?_)
        refine S_mv rfl ?_
        refine S_nc rfl ?_
        first | refine S_fa0 T.f53_5 rfl ?_ | refine S_fa T.f53_5 rfl ?_
        first | refine S_ixan T.ar50 rfl rfl (by omega) ?_ | refine S_ixa1 T.ar50 rfl rfl (by omega) (by omega) ?_
        refine S_ldK T.ag3 rfl (fun K' hK' => ?_)
        simp (disch := omega) only [slP hB, slT hB, slW hB, slL hB, slLog hB, slAct hB, slPh hB, slInc hB, slAl hB, slCt hB, slCf hB, slRs hB, slSi hB, oP_some, Nat.add_zero]
        refine hK' _ ?_; clear hK' K'
        refine S_bin rfl rfl rfl ?_
        refine S_mv rfl ?_
        refine S_dec (fun g34 => ?_) (fun g34 => ?_)
        · skip
          refine S_gf rfl ?_
          refine S_gf rfl ?_
          refine S_gf rfl ?_
          refine S_gf rfl ?_
          refine S_gf rfl ?_
          refine S_gf rfl ?_
          refine S_pt rfl rfl ?_
          refine S_nil (hK10 _ _ (V_keep [0, 41] (by simp only [proj, lk, reduceIte, Nat.reduceEqDiff]; rfl) ?_)); clear hK10
          refine V_condt rfl ?_
          refine V_sr T.mix (by kernel_rfl) (fun K11 hK11 => ?_)
          refine S_as rfl ?_
          refine S_nil (hK11 _ _ (V_keep [2] (by simp only [proj, lk, reduceIte, Nat.reduceEqDiff]; rfl) ?_)); clear hK11
          refine V_ret ?_
          refine hR _ _ (ret1 rfl rfl ?_)
          first | (exfalso; omega) | (exfalso; simp_all; done) | exact ⟨rfl, hEk⟩
        · skip
          refine S_gt rfl ?_
          refine S_mv rfl ?_
          refine S_gt rfl ?_
          refine S_nc rfl ?_
          refine S_gt rfl ?_
          first | refine S_fa0 T.f53_6 rfl ?_ | refine S_fa T.f53_6 rfl ?_
          refine S_gt rfl ?_
          first | refine S_ixan T.ar50 rfl rfl (by omega) ?_ | refine S_ixa1 T.ar50 rfl rfl (by omega) (by omega) ?_
          refine S_gt rfl ?_
          refine S_ldK T.ag3 rfl (fun K' hK' => ?_)
          simp (disch := omega) only [slP hB, slT hB, slW hB, slL hB, slLog hB, slAct hB, slPh hB, slInc hB, slAl hB, slCt hB, slCf hB, slRs hB, slSi hB, oP_some, Nat.add_zero]
          refine hK' _ ?_; clear hK' K'
          refine S_gt rfl ?_
          refine S_bin rfl rfl rfl ?_
          refine S_pf rfl rfl ?_
          refine S_nil (hK10 _ _ (V_keep [0, 41] (by simp only [proj, lk, reduceIte, Nat.reduceEqDiff]; rfl) ?_)); clear hK10
          refine V_condp rfl (fun c34 => ?_) (fun c34 => ?_)
          · skip
            refine V_sr T.mix (by kernel_rfl) (fun K12 hK12 => ?_)
            refine S_as rfl ?_
            refine S_nil (hK12 _ _ (V_keep [2] (by simp only [proj, lk, reduceIte, Nat.reduceEqDiff]; rfl) ?_)); clear hK12
            refine V_ret ?_
            refine hR _ _ (ret1 rfl rfl ?_)
            first | (exfalso; omega) | (exfalso; simp_all; done) | exact ⟨rfl, hEk⟩
          · skip
            refine V_skipk [0] (by simp only [proj, lk, reduceIte, Nat.reduceEqDiff]; rfl) ?_
            refine hK9 _ _ ?_; clear hK9
            refine V_seq (fun K13 hK13 => ?_)
            refine V_sr T.mix (by kernel_rfl) (fun K14 hK14 => ?_)
            refine S_as rfl ?_
            refine S_nil (hK14 _ _ (V_keep [0, 3] (by simp only [proj, lk, reduceIte, Nat.reduceEqDiff]; rfl) ?_)); clear hK14
            refine V_block ?_
            refine V_loop (fun m l h' => ∃ (v : Nat), (1 ≤ v) ∧ (v ≤ 13) ∧ m = 13 - v ∧ l = [(0, .pointer (some ⟨V, 0, none⟩)), (3, .int .i64 (v : Int))] ∧ h = h') _ ⟨1, by omega, by omega, rfl, rfl, rfl⟩ ?_
            rintro m l h' ⟨v, hv1, hv, rfl, rfl, rfl⟩ K15 hK15
            refine V_seq (fun K16 hK16 => ?_)
            refine V_sr T.mix (by kernel_rfl) (fun K17 hK17 => ?_)
            refine S_mv rfl ?_
            refine S_bin rfl rfl rfl ?_
            refine S_nil (hK17 _ _ (V_keep [0, 3, 43] (by simp only [proj, lk, reduceIte, Nat.reduceEqDiff]; rfl) ?_)); clear hK17
            refine V_condp rfl (fun c37 => ?_) (fun c37 => ?_)
            · skip
              refine V_skipk [0, 3] (by simp only [proj, lk, reduceIte, Nat.reduceEqDiff]; rfl) ?_
              refine hK16 _ _ ?_; clear hK16
              refine V_seq (fun K18 hK18 => ?_)
              refine V_block ?_
              refine V_seq (fun K19 hK19 => ?_)
              refine V_sr T.mix (by kernel_rfl) (fun K20 hK20 => ?_)
              refine S_mv rfl ?_
              refine S_mv rfl ?_
              refine S_nc rfl ?_
              first | refine S_fa0 T.f53_5 rfl ?_ | refine S_fa T.f53_5 rfl ?_
              first | refine S_ixan T.ar50 rfl rfl (by omega) ?_ | refine S_ixa1 T.ar50 rfl rfl (by omega) (by omega) ?_
              refine S_ldK T.ag3 rfl (fun K' hK' => ?_)
              simp (disch := omega) only [slP hB, slT hB, slW hB, slL hB, slLog hB, slAct hB, slPh hB, slInc hB, slAl hB, slCt hB, slCf hB, slRs hB, slSi hB, oP_some, Nat.add_zero]
              refine hK' _ ?_; clear hK' K'
              refine S_bin rfl rfl rfl ?_
              refine S_nil (hK20 _ _ (V_keep [0, 3, 52] (by simp only [proj, lk, reduceIte, Nat.reduceEqDiff]; rfl) ?_)); clear hK20
              refine V_condp rfl (fun c38 => ?_) (fun c38 => ?_)
              · skip
                have h9 := ai.ac v (by omega)
                exfalso; omega
              · skip
                refine V_skipk [0, 3] (by simp only [proj, lk, reduceIte, Nat.reduceEqDiff]; rfl) ?_
                refine hK19 _ _ ?_; clear hK19
                refine V_sr T.mix (by kernel_rfl) (fun K21 hK21 => ?_)
                refine S_mv rfl ?_
                refine S_mv rfl ?_
                refine S_nc rfl ?_
                first | refine S_fa0 T.f53_6 rfl ?_ | refine S_fa T.f53_6 rfl ?_
                first | refine S_ixan T.ar50 rfl rfl (by omega) ?_ | refine S_ixa1 T.ar50 rfl rfl (by omega) (by omega) ?_
                refine S_ldK T.ag3 rfl (fun K' hK' => ?_)
                simp (disch := omega) only [slP hB, slT hB, slW hB, slL hB, slLog hB, slAct hB, slPh hB, slInc hB, slAl hB, slCt hB, slCf hB, slRs hB, slSi hB, oP_some, Nat.add_zero]
                refine hK' _ ?_; clear hK' K'
                refine S_bin rfl rfl rfl ?_
                refine S_mv rfl ?_
                refine S_dec (fun g41 => ?_) (fun g41 => ?_)
                · skip
                  refine S_gt rfl ?_
                  refine S_mv rfl ?_
                  refine S_gt rfl ?_
                  refine S_mv rfl ?_
                  refine S_gt rfl ?_
                  refine S_nc rfl ?_
                  refine S_gt rfl ?_
                  first | refine S_fa0 T.f53_6 rfl ?_ | refine S_fa T.f53_6 rfl ?_
                  refine S_gt rfl ?_
                  first | refine S_ixan T.ar50 rfl rfl (by omega) ?_ | refine S_ixa1 T.ar50 rfl rfl (by omega) (by omega) ?_
                  refine S_gt rfl ?_
                  refine S_ldK T.ag3 rfl (fun K' hK' => ?_)
                  simp (disch := omega) only [slP hB, slT hB, slW hB, slL hB, slLog hB, slAct hB, slPh hB, slInc hB, slAl hB, slCt hB, slCf hB, slRs hB, slSi hB, oP_some, Nat.add_zero]
                  refine hK' _ ?_; clear hK' K'
                  refine S_gt rfl ?_
                  refine S_bin rfl rfl rfl ?_
                  refine S_pt rfl rfl ?_
                  refine S_nil (hK21 _ _ (V_keep [0, 3, 68] (by simp only [proj, lk, reduceIte, Nat.reduceEqDiff]; rfl) ?_)); clear hK21
                  refine V_condp rfl (fun c41 => ?_) (fun c41 => ?_)
                  · skip
                    have h9 := ai.ph v (by omega)
                    exfalso; omega
                  · skip
                    refine V_skipk [0, 3] (by simp only [proj, lk, reduceIte, Nat.reduceEqDiff]; rfl) ?_
                    refine hK18 _ _ ?_; clear hK18
                    refine V_reg T.mix (by kernel_rfl) ?_
                    refine S_mv rfl ?_
                    first | refine S_add rfl rfl (by omega) (by omega) ?_ | refine S_bin rfl rfl rfl ?_
                    refine S_as rfl ?_
                    refine S_nilk [0, 3] (by simp only [proj, lk, reduceIte, Nat.reduceEqDiff]; rfl) ?_
                    exact hK15 _ _ ⟨_, by omega, v + 1, by omega, by omega, rfl, rfl, rfl⟩
                · skip
                  refine S_gf rfl ?_
                  refine S_gf rfl ?_
                  refine S_gf rfl ?_
                  refine S_gf rfl ?_
                  refine S_gf rfl ?_
                  refine S_gf rfl ?_
                  refine S_gf rfl ?_
                  refine S_pf rfl rfl ?_
                  refine S_nil (hK21 _ _ (V_keep [0, 3, 68] (by simp only [proj, lk, reduceIte, Nat.reduceEqDiff]; rfl) ?_)); clear hK21
                  refine V_condf rfl ?_
                  refine V_skipk [0, 3] (by simp only [proj, lk, reduceIte, Nat.reduceEqDiff]; rfl) ?_
                  refine hK18 _ _ ?_; clear hK18
                  refine V_reg T.mix (by kernel_rfl) ?_
                  refine S_mv rfl ?_
                  first | refine S_add rfl rfl (by omega) (by omega) ?_ | refine S_bin rfl rfl rfl ?_
                  refine S_as rfl ?_
                  refine S_nilk [0, 3] (by simp only [proj, lk, reduceIte, Nat.reduceEqDiff]; rfl) ?_
                  exact hK15 _ _ ⟨_, by omega, v + 1, by omega, by omega, rfl, rfl, rfl⟩
            · skip
              refine V_exitk [0] rfl (by simp only [proj, lk, reduceIte, Nat.reduceEqDiff]; rfl) ?_
              refine hK13 _ _ ?_; clear hK13
              refine V_sr T.mix (by kernel_rfl) (fun K22 hK22 => ?_)
              refine S_as rfl ?_
              refine S_nil (hK22 _ _ (V_keep [0, 4] (by simp only [proj, lk, reduceIte, Nat.reduceEqDiff]; rfl) ?_)); clear hK22
              refine V_seq (fun K23 hK23 => ?_)
              refine V_sr T.mix (by kernel_rfl) (fun K24 hK24 => ?_)
              refine S_as rfl ?_
              refine S_nil (hK24 _ _ (V_keep [0, 4, 5] (by simp only [proj, lk, reduceIte, Nat.reduceEqDiff]; rfl) ?_)); clear hK24
              refine V_block ?_
              refine V_loop (fun m l h' => ∃ (k : Nat) (hk : Heap) (n : Nat), (k ≤ 12) ∧ (n = cI (fun i => (cl i).isSome) 40 (40 + k)) ∧ (Ext (fun _ => False) h hk) ∧ m = 12 - k ∧ l = [(0, .pointer (some ⟨V, 0, none⟩)), (4, .int .i64 (n : Int)), (5, .int .i64 (k : Int))] ∧ hk = h') _ ⟨0, h, 0, by omega, by rw [Nat.add_zero, cI_self], Ext.refl _ _, rfl, rfl, rfl⟩ ?_
              rintro m l h' ⟨k, hk, n, hk12, hn2, hEk, rfl, rfl, rfl⟩ K25 hK25
              clear hB
              have hB := w.sb.ext hEk (fun f => f)
              have hst := cI_step (fun i => (cl i).isSome) (a := 40) (b := 40 + k) (by omega)
              have hnk := cI_le (fun i => (cl i).isSome) 40 (40 + k)
              have hdk := Nat.div_le_self Q.al (2 ^ k)
              refine V_seq (fun K26 hK26 => ?_)
              refine V_sr T.mix (by kernel_rfl) (fun K27 hK27 => ?_)
              refine S_mv rfl ?_
              refine S_bin rfl rfl rfl ?_
              refine S_nil (hK27 _ _ (V_keep [0, 4, 5, 70] (by simp only [proj, lk, reduceIte, Nat.reduceEqDiff]; rfl) ?_)); clear hK27
              refine V_condp rfl (fun c46 => ?_) (fun c46 => ?_)
              · skip
                refine V_skipk [0, 4, 5] (by simp only [proj, lk, reduceIte, Nat.reduceEqDiff]; rfl) ?_
                refine hK26 _ _ ?_; clear hK26
                refine V_seq (fun K28 hK28 => ?_)
                refine V_block ?_
                refine V_sr T.mix (by kernel_rfl) (fun K29 hK29 => ?_)
                refine S_mv rfl ?_
                refine S_nc rfl ?_
                first | refine S_fa0 T.f53_2 rfl ?_ | refine S_fa T.f53_2 rfl ?_
                refine S_ldK T.ag31 rfl (fun K' hK' => ?_)
                simp (disch := omega) only [slP hB, slT hB, slW hB, slL hB, slLog hB, slAct hB, slPh hB, slInc hB, slAl hB, slCt hB, slCf hB, slRs hB, slSi hB, oP_some, Nat.add_zero]
                refine hK' _ ?_; clear hK' K'
                refine S_mv rfl ?_
                first | refine S_add rfl rfl (by omega) (by omega) ?_ | refine S_bin rfl rfl rfl ?_
                refine S_call T.hb15 rfl ?_
                refine FC.mono (wclause_spec hk C X W cl s p (w.wx.ext hEk (fun f => f) (fun f => f)) (40 + (k : Int))) ?_
                rintro v' h1 ⟨a1, rfl, hI1, hn1, hb1, hE1⟩
                clear hB
                have hB := w.sb.ext (hEk.trans hE1) (fun f => f)
                have hlive : (clE cl (40 + (k : Int)) = 0 ↔ (cl (40 + k)).isSome = true) ∧ clE cl (40 + (k : Int)) ≤ 13 := by
                  have hid : ((40 + k : Nat) : Int) = (40 + (k : Int)) := by omega
                  unfold clE liveC; rw [← hid, if_pos (by omega), Int.toNat_natCast]
                  cases cl (40 + k) <;> simp
                have hbit := al.bit k (by omega)
                refine S_mv rfl ?_
                refine S_ex rfl rfl ?_
                refine S_ex rfl rfl ?_
                refine S_as rfl ?_
                refine S_as rfl ?_
                refine S_nil (hK29 _ _ (V_keep [0, 4, 5, 7] (by simp only [proj, lk, reduceIte, Nat.reduceEqDiff]; rfl) ?_)); clear hK29
                refine V_sr T.mix (by kernel_rfl) (fun K30 hK30 => ?_)
                refine S_mv rfl ?_
                refine S_nc rfl ?_
                first | refine S_fa0 T.f53_8 rfl ?_ | refine S_fa T.f53_8 rfl ?_
                refine S_ldK T.ag51 rfl (fun K' hK' => ?_)
                simp (disch := omega) only [slP hB, slT hB, slW hB, slL hB, slLog hB, slAct hB, slPh hB, slInc hB, slAl hB, slCt hB, slCf hB, slRs hB, slSi hB, oP_some, Nat.add_zero]
                refine hK' _ ?_; clear hK' K'
                refine S_mv rfl ?_
                first | refine S_cvn T.us3 T.in57 rfl rfl (by first | omega | (simp only [IntKind.bits]; omega)) ?_ | refine S_cvu T.us3 T.in57 rfl (by omega) (by omega) ?_ | refine S_cv T.us3 T.in57 rfl ?_
                refine S_nshr Q.al k _ rfl rfl rfl rfl rfl (show k ≤ 16 by omega) ?_
                refine S_nand (Q.al / 2 ^ k) 1 _ rfl rfl rfl rfl rfl (t16 (by omega)) (by decide) ?_
                rw [Nat.and_one_is_mod]
                refine S_bin rfl rfl rfl ?_
                refine S_as rfl ?_
                refine S_nil (hK30 _ _ (V_keep [0, 4, 5, 7, 8] (by simp only [proj, lk, reduceIte, Nat.reduceEqDiff]; rfl) ?_)); clear hK30
                refine V_seq (fun K31 hK31 => ?_)
                refine V_sr T.mix (by kernel_rfl) (fun K32 hK32 => ?_)
                refine S_mv rfl ?_
                refine S_mv rfl ?_
                refine S_bin rfl rfl rfl ?_
                refine S_bin rfl rfl (by simp only [binV, T.kd4]; rfl) ?_
                refine S_nil (hK32 _ _ (V_keep [0, 4, 5, 8, 95] (by simp only [proj, lk, reduceIte, Nat.reduceEqDiff]; rfl) ?_)); clear hK32
                refine V_condp rfl (fun c49 => ?_) (fun c49 => ?_)
                · skip
                  have hf49 : False := by
                    rw [sh_and, hbit] at c49
                    apply c49
                    by_cases z : clE cl (40 + (k : Int)) = 0
                    · rw [hlive.1.1 z, decide_eq_true (by omega)]
                    · rw [decide_eq_false (by omega)]
                      cases q : (cl (40 + k)).isSome with
                      | false => rfl
                      | true => exact absurd (hlive.1.2 q) z
                  exfalso; exact hf49
                · skip
                  refine V_skipk [0, 4, 5, 8] (by simp only [proj, lk, reduceIte, Nat.reduceEqDiff]; rfl) ?_
                  refine hK31 _ _ ?_; clear hK31
                  refine V_sr T.mix (by kernel_rfl) (fun K33 hK33 => ?_)
                  refine S_mv rfl ?_
                  refine S_nil (hK33 _ _ (V_keep [0, 4, 5, 96] (by simp only [proj, lk, reduceIte, Nat.reduceEqDiff]; rfl) ?_)); clear hK33
                  refine V_condp rfl (fun c52 => ?_) (fun c52 => ?_)
                  · skip
                    have his : (cl (40 + k)).isSome = true := by rw [← hbit, ← sh_and]; simpa using c52
                    refine V_reg T.mix (by kernel_rfl) ?_
                    refine S_mv rfl ?_
                    first | refine S_add rfl rfl (by omega) (by omega) ?_ | refine S_bin rfl rfl rfl ?_
                    refine S_as rfl ?_
                    refine S_nilk [0, 4, 5] (by simp only [proj, lk, reduceIte, Nat.reduceEqDiff]; rfl) ?_
                    refine hK28 _ _ ?_; clear hK28
                    refine V_reg T.mix (by kernel_rfl) ?_
                    refine S_mv rfl ?_
                    first | refine S_add rfl rfl (by omega) (by omega) ?_ | refine S_bin rfl rfl rfl ?_
                    refine S_as rfl ?_
                    refine S_nilk [0, 4, 5] (by simp only [proj, lk, reduceIte, Nat.reduceEqDiff]; rfl) ?_
                    exact hK25 _ _ ⟨_, by omega, k + 1, h1, n + 1, by omega, by rw [← Nat.add_assoc, hst, if_pos his, hn2], hEk.trans hE1, rfl, rfl, rfl⟩
                  · skip
                    have his : ¬ (cl (40 + k)).isSome = true := by rw [← hbit, ← sh_and]; simpa using c52
                    refine V_skipk [0, 4, 5] (by simp only [proj, lk, reduceIte, Nat.reduceEqDiff]; rfl) ?_
                    refine hK28 _ _ ?_; clear hK28
                    refine V_reg T.mix (by kernel_rfl) ?_
                    refine S_mv rfl ?_
                    first | refine S_add rfl rfl (by omega) (by omega) ?_ | refine S_bin rfl rfl rfl ?_
                    refine S_as rfl ?_
                    refine S_nilk [0, 4, 5] (by simp only [proj, lk, reduceIte, Nat.reduceEqDiff]; rfl) ?_
                    exact hK25 _ _ ⟨_, by omega, k + 1, h1, n, by omega, by rw [← Nat.add_assoc, hst, if_neg his, hn2]; rfl, hEk.trans hE1, rfl, rfl, rfl⟩
              · skip
                rw [show 40 + k = 52 by omega] at hn2
                rw [show cI (fun i => (cl i).isSome) 40 52 = aL cl from rfl] at hn2
                refine V_exitk [0, 4] rfl (by simp only [proj, lk, reduceIte, Nat.reduceEqDiff]; rfl) ?_
                refine hK23 _ _ ?_; clear hK23
                refine V_seq (fun K34 hK34 => ?_)
                refine V_sr T.mix (by kernel_rfl) (fun K35 hK35 => ?_)
                refine S_mv rfl ?_
                refine S_mv rfl ?_
                refine S_nc rfl ?_
                first | refine S_fa0 T.f53_9 rfl ?_ | refine S_fa T.f53_9 rfl ?_
                refine S_ldK T.ag3 rfl (fun K' hK' => ?_)
                simp (disch := omega) only [slP hB, slT hB, slW hB, slL hB, slLog hB, slAct hB, slPh hB, slInc hB, slAl hB, slCt hB, slCf hB, slRs hB, slSi hB, oP_some, Nat.add_zero]
                refine hK' _ ?_; clear hK' K'
                refine S_bin rfl rfl rfl ?_
                refine S_mv rfl ?_
                refine S_dec (fun g56 => ?_) (fun g56 => ?_)
                · skip
                  refine S_gf rfl ?_
                  refine S_gf rfl ?_
                  refine S_gf rfl ?_
                  refine S_gf rfl ?_
                  refine S_gf rfl ?_
                  refine S_gf rfl ?_
                  refine S_pt rfl rfl ?_
                  refine S_nil (hK35 _ _ (V_keep [0, 112] (by simp only [proj, lk, reduceIte, Nat.reduceEqDiff]; rfl) ?_)); clear hK35
                  refine V_condt rfl ?_
                  refine V_sr T.mix (by kernel_rfl) (fun K36 hK36 => ?_)
                  refine S_as rfl ?_
                  refine S_nil (hK36 _ _ (V_keep [2] (by simp only [proj, lk, reduceIte, Nat.reduceEqDiff]; rfl) ?_)); clear hK36
                  refine V_ret ?_
                  refine hR _ _ (ret1 rfl rfl ?_)
                  first | (exfalso; omega) | (exfalso; simp_all; done) | exact ⟨rfl, hEk⟩
                · skip
                  refine S_gt rfl ?_
                  refine S_mv rfl ?_
                  refine S_gt rfl ?_
                  refine S_nc rfl ?_
                  refine S_gt rfl ?_
                  first | refine S_fa0 T.f53_8 rfl ?_ | refine S_fa T.f53_8 rfl ?_
                  refine S_gt rfl ?_
                  refine S_ldK T.ag51 rfl (fun K' hK' => ?_)
                  simp (disch := omega) only [slP hB, slT hB, slW hB, slL hB, slLog hB, slAct hB, slPh hB, slInc hB, slAl hB, slCt hB, slCf hB, slRs hB, slSi hB, oP_some, Nat.add_zero]
                  refine hK' _ ?_; clear hK' K'
                  refine S_gt rfl ?_
                  refine S_nshr Q.al 12 _ rfl rfl rfl rfl rfl (by decide) ?_
                  refine S_gt rfl ?_
                  refine S_bin rfl rfl rfl ?_
                  refine S_pf rfl rfl ?_
                  refine S_nil (hK35 _ _ (V_keep [0, 112] (by simp only [proj, lk, reduceIte, Nat.reduceEqDiff]; rfl) ?_)); clear hK35
                  refine V_condp rfl (fun c56 => ?_) (fun c56 => ?_)
                  · skip
                    refine V_sr T.mix (by kernel_rfl) (fun K37 hK37 => ?_)
                    refine S_as rfl ?_
                    refine S_nil (hK37 _ _ (V_keep [2] (by simp only [proj, lk, reduceIte, Nat.reduceEqDiff]; rfl) ?_)); clear hK37
                    refine V_ret ?_
                    refine hR _ _ (ret1 rfl rfl ?_)
                    first | (exfalso; omega) | (exfalso; simp_all; done) | exact ⟨rfl, hEk⟩
                  · skip
                    refine V_skipk [0] (by simp only [proj, lk, reduceIte, Nat.reduceEqDiff]; rfl) ?_
                    refine hK34 _ _ ?_; clear hK34
                    refine V_seq (fun K38 hK38 => ?_)
                    refine V_sr T.mix (by kernel_rfl) (fun K39 hK39 => ?_)
                    refine S_mv rfl ?_
                    refine S_nc rfl ?_
                    first | refine S_fa0 T.f53_11 rfl ?_ | refine S_fa T.f53_11 rfl ?_
                    refine S_ldK T.ag3 rfl (fun K' hK' => ?_)
                    simp (disch := omega) only [slP hB, slT hB, slW hB, slL hB, slLog hB, slAct hB, slPh hB, slInc hB, slAl hB, slCt hB, slCf hB, slRs hB, slSi hB, oP_some, Nat.add_zero]
                    refine hK' _ ?_; clear hK' K'
                    refine S_bin rfl rfl rfl ?_
                    refine S_mv rfl ?_
                    refine S_dec (fun g59 => ?_) (fun g59 => ?_)
                    · skip
                      refine S_gf rfl ?_
                      refine S_gf rfl ?_
                      refine S_gf rfl ?_
                      refine S_gf rfl ?_
                      refine S_gf rfl ?_
                      refine S_pt rfl rfl ?_
                      refine S_nil (hK39 _ _ (V_keep [0, 124] (by simp only [proj, lk, reduceIte, Nat.reduceEqDiff]; rfl) ?_)); clear hK39
                      refine V_condt rfl ?_
                      refine V_sr T.mix (by kernel_rfl) (fun K40 hK40 => ?_)
                      refine S_as rfl ?_
                      refine S_nil (hK40 _ _ (V_keep [2] (by simp only [proj, lk, reduceIte, Nat.reduceEqDiff]; rfl) ?_)); clear hK40
                      refine V_ret ?_
                      refine hR _ _ (ret1 rfl rfl ?_)
                      first | (exfalso; omega) | (exfalso; simp_all; done) | exact ⟨rfl, hEk⟩
                    · skip
                      refine S_gt rfl ?_
                      refine S_mv rfl ?_
                      refine S_gt rfl ?_
                      refine S_nc rfl ?_
                      refine S_gt rfl ?_
                      first | refine S_fa0 T.f53_11 rfl ?_ | refine S_fa T.f53_11 rfl ?_
                      refine S_gt rfl ?_
                      refine S_ldK T.ag3 rfl (fun K' hK' => ?_)
                      simp (disch := omega) only [slP hB, slT hB, slW hB, slL hB, slLog hB, slAct hB, slPh hB, slInc hB, slAl hB, slCt hB, slCf hB, slRs hB, slSi hB, oP_some, Nat.add_zero]
                      refine hK' _ ?_; clear hK' K'
                      refine S_gt rfl ?_
                      refine S_bin rfl rfl rfl ?_
                      refine S_pf rfl rfl ?_
                      refine S_nil (hK39 _ _ (V_keep [0, 124] (by simp only [proj, lk, reduceIte, Nat.reduceEqDiff]; rfl) ?_)); clear hK39
                      refine V_condp rfl (fun c59 => ?_) (fun c59 => ?_)
                      · skip
                        refine V_sr T.mix (by kernel_rfl) (fun K41 hK41 => ?_)
                        refine S_as rfl ?_
                        refine S_nil (hK41 _ _ (V_keep [2] (by simp only [proj, lk, reduceIte, Nat.reduceEqDiff]; rfl) ?_)); clear hK41
                        refine V_ret ?_
                        refine hR _ _ (ret1 rfl rfl ?_)
                        first | (exfalso; omega) | (exfalso; simp_all; done) | exact ⟨rfl, hEk⟩
                      · skip
                        refine V_skipk [0] (by simp only [proj, lk, reduceIte, Nat.reduceEqDiff]; rfl) ?_
                        refine hK38 _ _ ?_; clear hK38
                        refine V_seq (fun K42 hK42 => ?_)
                        refine V_sr T.mix (by kernel_rfl) (fun K43 hK43 => ?_)
                        refine S_mv rfl ?_
                        refine S_nc rfl ?_
                        first | refine S_fa0 T.f53_12 rfl ?_ | refine S_fa T.f53_12 rfl ?_
                        refine S_ldK T.ag3 rfl (fun K' hK' => ?_)
                        simp (disch := omega) only [slP hB, slT hB, slW hB, slL hB, slLog hB, slAct hB, slPh hB, slInc hB, slAl hB, slCt hB, slCf hB, slRs hB, slSi hB, oP_some, Nat.add_zero]
                        refine hK' _ ?_; clear hK' K'
                        refine S_bin rfl rfl rfl ?_
                        refine S_mv rfl ?_
                        refine S_dec (fun g62 => ?_) (fun g62 => ?_)
                        · skip
                          refine S_gf rfl ?_
                          refine S_gf rfl ?_
                          refine S_gf rfl ?_
                          refine S_gf rfl ?_
                          refine S_gf rfl ?_
                          refine S_gf rfl ?_
                          refine S_gf rfl ?_
                          refine S_gf rfl ?_
                          refine S_gf rfl ?_
                          refine S_pt rfl rfl ?_
                          refine S_mv rfl ?_
                          refine S_gf rfl ?_
                          refine S_gf rfl ?_
                          refine S_gf rfl ?_
                          refine S_gf rfl ?_
                          refine S_gf rfl ?_
                          refine S_pt rfl rfl ?_
                          refine S_nil (hK43 _ _ (V_keep [0, 147] (by simp only [proj, lk, reduceIte, Nat.reduceEqDiff]; rfl) ?_)); clear hK43
                          refine V_condt rfl ?_
                          refine V_sr T.mix (by kernel_rfl) (fun K44 hK44 => ?_)
                          refine S_as rfl ?_
                          refine S_nil (hK44 _ _ (V_keep [2] (by simp only [proj, lk, reduceIte, Nat.reduceEqDiff]; rfl) ?_)); clear hK44
                          refine V_ret ?_
                          refine hR _ _ (ret1 rfl rfl ?_)
                          first | (exfalso; omega) | (exfalso; simp_all; done) | exact ⟨rfl, hEk⟩
                        · skip
                          refine S_gt rfl ?_
                          refine S_mv rfl ?_
                          refine S_gt rfl ?_
                          refine S_nc rfl ?_
                          refine S_gt rfl ?_
                          first | refine S_fa0 T.f53_12 rfl ?_ | refine S_fa T.f53_12 rfl ?_
                          refine S_gt rfl ?_
                          refine S_ldK T.ag3 rfl (fun K' hK' => ?_)
                          simp (disch := omega) only [slP hB, slT hB, slW hB, slL hB, slLog hB, slAct hB, slPh hB, slInc hB, slAl hB, slCt hB, slCf hB, slRs hB, slSi hB, oP_some, Nat.add_zero]
                          refine hK' _ ?_; clear hK' K'
                          refine S_gt rfl ?_
                          refine S_mv rfl ?_
                          refine S_gt rfl ?_
                          refine S_nc rfl ?_
                          refine S_gt rfl ?_
                          first | refine S_fa0 T.f53_10 rfl ?_ | refine S_fa T.f53_10 rfl ?_
                          refine S_gt rfl ?_
                          refine S_ldK T.ag3 rfl (fun K' hK' => ?_)
                          simp (disch := omega) only [slP hB, slT hB, slW hB, slL hB, slLog hB, slAct hB, slPh hB, slInc hB, slAl hB, slCt hB, slCf hB, slRs hB, slSi hB, oP_some, Nat.add_zero]
                          refine hK' _ ?_; clear hK' K'
                          refine S_gt rfl ?_
                          refine S_bin rfl rfl rfl ?_
                          refine S_pf rfl rfl ?_
                          refine S_mv rfl ?_
                          refine S_dec (fun g62a => ?_) (fun g62a => ?_)
                          · skip
                            refine S_gf rfl ?_
                            refine S_gf rfl ?_
                            refine S_gf rfl ?_
                            refine S_gf rfl ?_
                            refine S_gf rfl ?_
                            refine S_pt rfl rfl ?_
                            refine S_nil (hK43 _ _ (V_keep [0, 147] (by simp only [proj, lk, reduceIte, Nat.reduceEqDiff]; rfl) ?_)); clear hK43
                            refine V_condt rfl ?_
                            refine V_sr T.mix (by kernel_rfl) (fun K45 hK45 => ?_)
                            refine S_as rfl ?_
                            refine S_nil (hK45 _ _ (V_keep [2] (by simp only [proj, lk, reduceIte, Nat.reduceEqDiff]; rfl) ?_)); clear hK45
                            refine V_ret ?_
                            refine hR _ _ (ret1 rfl rfl ?_)
                            first | (exfalso; omega) | (exfalso; simp_all; done) | exact ⟨rfl, hEk⟩
                          · skip
                            refine S_gt rfl ?_
                            refine S_mv rfl ?_
                            refine S_gt rfl ?_
                            refine S_nc rfl ?_
                            refine S_gt rfl ?_
                            first | refine S_fa0 T.f53_10 rfl ?_ | refine S_fa T.f53_10 rfl ?_
                            refine S_gt rfl ?_
                            refine S_ldK T.ag3 rfl (fun K' hK' => ?_)
                            simp (disch := omega) only [slP hB, slT hB, slW hB, slL hB, slLog hB, slAct hB, slPh hB, slInc hB, slAl hB, slCt hB, slCf hB, slRs hB, slSi hB, oP_some, Nat.add_zero]
                            refine hK' _ ?_; clear hK' K'
                            refine S_gt rfl ?_
                            refine S_bin rfl rfl rfl ?_
                            refine S_pf rfl rfl ?_
                            refine S_nil (hK43 _ _ (V_keep [0, 147] (by simp only [proj, lk, reduceIte, Nat.reduceEqDiff]; rfl) ?_)); clear hK43
                            refine V_condp rfl (fun c62 => ?_) (fun c62 => ?_)
                            · skip
                              refine V_sr T.mix (by kernel_rfl) (fun K46 hK46 => ?_)
                              refine S_as rfl ?_
                              refine S_nil (hK46 _ _ (V_keep [2] (by simp only [proj, lk, reduceIte, Nat.reduceEqDiff]; rfl) ?_)); clear hK46
                              refine V_ret ?_
                              refine hR _ _ (ret1 rfl rfl ?_)
                              first | (exfalso; omega) | (exfalso; simp_all; done) | exact ⟨rfl, hEk⟩
                            · skip
                              refine V_skipk [0] (by simp only [proj, lk, reduceIte, Nat.reduceEqDiff]; rfl) ?_
                              refine hK42 _ _ ?_; clear hK42
                              refine V_sr T.mix (by kernel_rfl) (fun K47 hK47 => ?_)
                              refine S_mv rfl ?_
                              refine S_nc rfl ?_
                              first | refine S_fa0 T.f53_11 rfl ?_ | refine S_fa T.f53_11 rfl ?_
                              refine S_ldK T.ag3 rfl (fun K' hK' => ?_)
                              simp (disch := omega) only [slP hB, slT hB, slW hB, slL hB, slLog hB, slAct hB, slPh hB, slInc hB, slAl hB, slCt hB, slCf hB, slRs hB, slSi hB, oP_some, Nat.add_zero]
                              refine hK' _ ?_; clear hK' K'
                              refine S_call T.hb16 rfl ?_
                              refine FC.mono (interval_spec hk Q.rs (by omega)) ?_
                              rintro v' h' ⟨rfl, rfl⟩
                              refine S_as rfl ?_
                              refine S_nil (hK47 _ _ (V_keep [0, 9] (by simp only [proj, lk, reduceIte, Nat.reduceEqDiff]; rfl) ?_)); clear hK47
                              refine V_seq (fun K48 hK48 => ?_)
                              refine V_sr T.mix (by kernel_rfl) (fun K49 hK49 => ?_)
                              refine S_mv rfl ?_
                              refine S_bin rfl rfl rfl ?_
                              refine S_mv rfl ?_
                              refine S_dec (fun g66 => ?_) (fun g66 => ?_)
                              · skip
                                refine S_gt rfl ?_
                                refine S_mv rfl ?_
                                refine S_gt rfl ?_
                                refine S_nc rfl ?_
                                refine S_gt rfl ?_
                                first | refine S_fa0 T.f53_12 rfl ?_ | refine S_fa T.f53_12 rfl ?_
                                refine S_gt rfl ?_
                                refine S_ldK T.ag3 rfl (fun K' hK' => ?_)
                                simp (disch := omega) only [slP hB, slT hB, slW hB, slL hB, slLog hB, slAct hB, slPh hB, slInc hB, slAl hB, slCt hB, slCf hB, slRs hB, slSi hB, oP_some, Nat.add_zero]
                                refine hK' _ ?_; clear hK' K'
                                refine S_gt rfl ?_
                                refine S_mv rfl ?_
                                refine S_gt rfl ?_
                                refine S_bin rfl rfl rfl ?_
                                refine S_pt rfl rfl ?_
                                refine S_nil (hK49 _ _ (V_keep [162] (by simp only [proj, lk, reduceIte, Nat.reduceEqDiff]; rfl) ?_)); clear hK49
                                refine V_condp rfl (fun c66 => ?_) (fun c66 => ?_)
                                · skip
                                  refine V_sr T.mix (by kernel_rfl) (fun K50 hK50 => ?_)
                                  refine S_as rfl ?_
                                  refine S_nil (hK50 _ _ (V_keep [2] (by simp only [proj, lk, reduceIte, Nat.reduceEqDiff]; rfl) ?_)); clear hK50
                                  refine V_ret ?_
                                  refine hR _ _ (ret1 rfl rfl ?_)
                                  first | (exfalso; omega) | (exfalso; simp_all; done) | exact ⟨rfl, hEk⟩
                                · skip
                                  refine V_skipk [] (by simp only [proj, lk, reduceIte, Nat.reduceEqDiff]; rfl) ?_
                                  refine hK48 _ _ ?_; clear hK48
                                  refine V_sr T.mix (by kernel_rfl) (fun K51 hK51 => ?_)
                                  refine S_as rfl ?_
                                  refine S_nil (hK51 _ _ (V_keep [2] (by simp only [proj, lk, reduceIte, Nat.reduceEqDiff]; rfl) ?_)); clear hK51
                                  refine V_ret ?_
                                  refine hR _ _ (ret1 rfl rfl ?_)
                                  first | (exfalso; omega) | (exfalso; simp_all; done) | exact ⟨rfl, hEk⟩
                              · skip
                                refine S_gf rfl ?_
                                refine S_gf rfl ?_
                                refine S_gf rfl ?_
                                refine S_gf rfl ?_
                                refine S_gf rfl ?_
                                refine S_gf rfl ?_
                                refine S_pf rfl rfl ?_
                                refine S_nil (hK49 _ _ (V_keep [162] (by simp only [proj, lk, reduceIte, Nat.reduceEqDiff]; rfl) ?_)); clear hK49
                                refine V_condf rfl ?_
                                refine V_skipk [] (by simp only [proj, lk, reduceIte, Nat.reduceEqDiff]; rfl) ?_
                                refine hK48 _ _ ?_; clear hK48
                                refine V_sr T.mix (by kernel_rfl) (fun K52 hK52 => ?_)
                                refine S_as rfl ?_
                                refine S_nil (hK52 _ _ (V_keep [2] (by simp only [proj, lk, reduceIte, Nat.reduceEqDiff]; rfl) ?_)); clear hK52
                                refine V_ret ?_
                                refine hR _ _ (ret1 rfl rfl ?_)
                                first | (exfalso; omega) | (exfalso; simp_all; done) | exact ⟨rfl, hEk⟩
end Go.Proofs.Qxb6500401aGreat
