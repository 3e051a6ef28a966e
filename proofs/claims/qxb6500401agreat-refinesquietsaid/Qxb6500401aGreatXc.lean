import Derived.Test.Qxb6500401aGreatSb
set_option linter.unusedVariables false
set_option linter.unusedSimpArgs false
namespace Go.Proofs.Qxb6500401aGreat
open Go.Eng Go.Trl Go.Chk Go.Wat

def lockL (s : TS) (id : Nat) (x : Int) : Bool := decide (valO s x = 1) && decide (reaV s.L (x.natAbs : Int) = (id : Int))
def lockB (s : TS) (id : Nat) (c : List Int) : Bool := c.any (lockL s id)
def liveC (cl : Nat → Option (List Int)) (id : Int) : Option (List Int) := if 0 ≤ id ∧ id < 52 then cl id.toNat else none
def remV (cl : Nat → Option (List Int)) (s : TS) (id : Int) : Nat := match liveC cl id with | none => 13 | some c => if lockB s id.toNat c then 14 else 0
def remS (cl : Nat → Option (List Int)) (s : TS) (id : Int) : Nat → Option (List Int) := if remV cl s id = 0 then upO cl id.toNat none else cl
def clF (cl : Nat → Option (List Int)) (id : Int) : List Int := (liveC cl id).getD []
def clE (cl : Nat → Option (List Int)) (id : Int) : Nat := match liveC cl id with | none => 13 | some _ => 0
theorem liveC_nat {cl : Nat → Option (List Int)} {n : Nat} (h : n < 52) : liveC cl (n : Int) = cl n := by unfold liveC; rw [if_pos (by omega), Int.toNat_natCast]
theorem and_zero {x n : Nat} : x &&& 2 ^ n = 0 ↔ x.testBit n = false := by
  constructor
  · intro h
    have := congrArg (fun y => y.testBit n) h
    simpa [Nat.testBit_and, two_bit] using this
  · intro h
    refine Nat.eq_of_testBit_eq fun i => ?_
    rw [Nat.testBit_and, two_bit, Nat.zero_testBit]
    by_cases e : n = i
    · subst e; rw [h]; rfl
    · simp [e]
theorem live_no {W : WC} {cl : Nat → Option (List Int)} {ls : List Int} {c : Nat} (hw : WI W cl ls c) {id : Int} {g : Bool} (hg : g = true ↔ ∃ n : Nat, id = n ∧ n < 52 ∧ W.used.testBit n = true) (e : g = false) : liveC cl id = none := by
  unfold liveC
  split
  · rename_i q
    cases z : cl id.toNat with
    | none => rfl
    | some cc =>
      have := hg.2 ⟨id.toNat, by omega, by omega, by rw [hw.u (by omega), z]; rfl⟩
      rw [e] at this; cases this
  · rfl
theorem live_yes {W : WC} {cl : Nat → Option (List Int)} {ls : List Int} {c : Nat} (hw : WI W cl ls c) {id : Int} {g : Bool} (hg : g = true ↔ ∃ n : Nat, id = n ∧ n < 52 ∧ W.used.testBit n = true) (e : g = true) : ∃ (n : Nat) (cc : List Int), id = n ∧ n < 52 ∧ cl n = some cc := by
  obtain ⟨n, h1, h2, h3⟩ := hg.1 e
  rw [hw.u h2] at h3
  obtain ⟨cc, h4⟩ := Option.isSome_iff_exists.1 h3
  exact ⟨n, cc, h1, h2, h4⟩
theorem lockB_no {s : TS} {id : Nat} {cc : List Int} {f : Nat → Int} (ha : Arr f cc.length cc) (h : ∀ j, j < cc.length → lockL s id (f j) = false) : lockB s id cc = false := by
  unfold lockB; rw [List.any_eq_false]
  intro x hx e
  obtain ⟨j, hj, q⟩ := ha.2.2.1 x hx
  rw [← q, h j hj] at e; cases e
theorem lockB_yes {s : TS} {id : Nat} {cc : List Int} {x : Int} (hx : x ∈ cc) (h : lockL s id x = true) : lockB s id cc = true := by
  unfold lockB; exact List.any_eq_true.2 ⟨x, hx, h⟩
theorem t13 {a : Nat} (h : a < 8192) : a < top .u16 := Nat.lt_of_lt_of_le h (by decide)
theorem p13 {v : Nat} (h : v < 13) : 2 ^ v < 8192 := Nat.pow_lt_pow_right (n := 13) (by omega) h
theorem or13 {a b : Nat} (ha : a < 8192) (hb : b < 8192) : a ||| b < 8192 := Nat.or_lt_two_pow (n := 13) ha hb
theorem bit_mod {x v : Nat} : x / 2 ^ v % 2 = 1 ↔ x.testBit v = true := by rw [Nat.testBit_eq_decide_div_mod_eq]; simp

theorem bits_up {f : Nat → Int} {x u i v : Nat} {sg : Int} (h : x.testBit v = true ↔ ∃ j, j < i ∧ f j = sg * (v : Int) ∧ 0 < v) (hs : sg = 1 ∨ sg = -1) (hf : f i = sg * (u : Int)) (hu : 0 < u) : (x.testBit v || decide (u = v)) = true ↔ ∃ j, j < i + 1 ∧ f j = sg * (v : Int) ∧ 0 < v := by
  rw [Bool.or_eq_true, h, decide_eq_true_eq]
  constructor
  · rintro (⟨j, h1, h2, h3⟩ | e)
    · exact ⟨j, by omega, h2, h3⟩
    · subst e; exact ⟨i, by omega, hf, hu⟩
  · rintro ⟨j, h1, h2, h3⟩
    by_cases e : j = i
    · right; subst e; rw [hf] at h2; rcases hs with q | q <;> subst q <;> omega
    · exact .inl ⟨j, by omega, h2, h3⟩
theorem bits_keep {f : Nat → Int} {x i v : Nat} {sg : Int} (h : x.testBit v = true ↔ ∃ j, j < i ∧ f j = sg * (v : Int) ∧ 0 < v) (hs : sg = 1 ∨ sg = -1) (hf : 0 < v → f i ≠ sg * (v : Int)) : x.testBit v = true ↔ ∃ j, j < i + 1 ∧ f j = sg * (v : Int) ∧ 0 < v := by
  rw [h]
  constructor
  · rintro ⟨j, h1, h2, h3⟩; exact ⟨j, by omega, h2, h3⟩
  · rintro ⟨j, h1, h2, h3⟩
    by_cases e : j = i
    · subst e; exact absurd h2 (hf h3)
    · exact ⟨j, by omega, h2, h3⟩

theorem idsF_mono {cl : Nat → Option (List Int)} {a b : Nat} (h : a ≤ b) : (idsF cl a).length ≤ (idsF cl b).length := by
  obtain ⟨d, rfl⟩ : ∃ d, b = a + d := ⟨b - a, by omega⟩
  clear h
  induction d with
  | zero => exact Nat.le_refl _
  | succ d ih => rw [← Nat.add_assoc, idsF_succ, List.length_append]; omega
set_option maxHeartbeats 1600000 in
theorem wremove_spec (h : Heap) (C X : Nat) (W : WC) (cl : Nat → Option (List Int)) (s : TS) (p : Nat) (w : WX h C X W cl s p) (id : Int) :
    FC Tryz.prog 130 (#[.pointer (some ⟨C, 0, none⟩), .int .i64 id] : Array Value) h fun rv h' => ∃ W', rv = .int .i64 ((remV cl s id : Nat) : Int) ∧ WX h' C X W' (remS cl s id) s p ∧ W'.vis = W.vis ∧ (∀ i, dueW W' i = true → dueW W i = true ∧ ¬ (remV cl s id = 0 ∧ (i : Int) = id)) ∧ Ext (fun x => x = C) h h' := by
  have hB := w.b
  have hE := Ext.refl (fun x => x = C) h
  have hlt := w.i.lt
  refine FC_of [(0, .pointer (some ⟨C, 0, none⟩)), (1, .int .i64 id)] Tryz.func130 rfl Tryz.ntmps130 (by simp) rfl (fun R hR => ?_)
  refine V_sr T.mix (by kernel_rfl) (fun K1 hK1 => ?_)
  refine S_as rfl ?_
  refine S_nil (hK1 _ _ (V_keep [0, 1] (by simp only [proj, lk, reduceIte, Nat.reduceEqDiff]; rfl) ?_)); clear hK1
  refine V_seq (fun K2 hK2 => ?_)
  refine V_sr T.mix (by kernel_rfl) (fun K3 hK3 => ?_)
  refine S_mv rfl ?_
  refine S_mv rfl ?_
  refine S_call T.hb26 rfl ?_
  refine FC.mono (wlive_spec h C X W hB hlt.1 id) ?_
  rintro v' h' ⟨g, rfl, hg, rfl⟩
  refine S_notb rfl ?_
  refine S_nil (hK3 _ _ (V_keep [0, 1, 15] (by simp only [proj, lk, reduceIte, Nat.reduceEqDiff]; rfl) ?_)); clear hK3
  refine V_condb rfl (fun c132 => ?_) (fun c132 => ?_)
  · skip
    refine V_sr T.mix (by kernel_rfl) (fun K4 hK4 => ?_)
    refine S_as rfl ?_
    refine S_nil (hK4 _ _ (V_keep [4] (by simp only [proj, lk, reduceIte, Nat.reduceEqDiff]; rfl) ?_)); clear hK4
    refine V_ret ?_
    refine hR _ _ (ret1 rfl rfl ?_)
    simp only [Bool.not_eq_true'] at c132
    have hlv := live_no w.i hg c132
    have hrv : remV cl s id = 13 := by unfold remV; rw [hlv]
    refine ⟨W, by rw [hrv]; rfl, ?_, rfl, fun i e => ⟨e, fun z => by omega⟩, hE⟩
    rw [show remS cl s id = cl by unfold remS; rw [if_neg (by omega)]]; exact w
  · skip
    simp only [Bool.not_eq_false'] at c132
    obtain ⟨n, cc, rfl, hid, hcl⟩ := live_yes w.i hg c132
    obtain ⟨hnr, hsz, harr⟩ := wi_arr w.i hid hcl
    have hln := hnr.len
    have hLo := w.i.lo n hid
    have hlv : liveC cl (n : Int) = some cc := by rw [liveC_nat hid, hcl]
    refine V_skipk [0, 1] (by simp only [proj, lk, reduceIte, Nat.reduceEqDiff]; rfl) ?_
    refine hK2 _ _ ?_; clear hK2
    refine V_sr T.mix (by kernel_rfl) (fun K5 hK5 => ?_)
    refine S_mv rfl ?_
    first | refine S_mul rfl rfl (by omega) (by omega) ?_ | refine S_bin rfl rfl rfl ?_
    refine S_as rfl ?_
    refine S_nil (hK5 _ _ (V_keep [0, 1, 5] (by simp only [proj, lk, reduceIte, Nat.reduceEqDiff]; rfl) ?_)); clear hK5
    refine V_seq (fun K6 hK6 => ?_)
    refine V_sr T.mix (by kernel_rfl) (fun K7 hK7 => ?_)
    refine S_as rfl ?_
    refine S_nil (hK7 _ _ (V_keep [0, 1, 5, 6] (by simp only [proj, lk, reduceIte, Nat.reduceEqDiff]; rfl) ?_)); clear hK7
    refine V_block ?_
    refine V_loop (fun m l h' => ∃ (i : Nat), (i ≤ cc.length) ∧ (∀ j, j < i → lockL s n (W.lits (n * 12 + j)) = false) ∧ m = cc.length - i ∧ l = [(0, .pointer (some ⟨C, 0, none⟩)), (1, .int .i64 (n : Int)), (5, .int .i64 ((n * 12 : Nat) : Int)), (6, .int .i64 (i : Int))] ∧ h = h') _ ⟨0, by omega, fun j hj => by omega, rfl, rfl, rfl⟩ ?_
    rintro m l h' ⟨i, hi, hnl, rfl, rfl, rfl⟩ K8 hK8
    refine V_seq (fun K9 hK9 => ?_)
    refine V_sr T.mix (by kernel_rfl) (fun K10 hK10 => ?_)
    refine S_mv rfl ?_
    refine S_mv rfl ?_
    refine S_mv rfl ?_
    refine S_nc rfl ?_
    first | refine S_fa0 T.f78_2 rfl ?_ | refine S_fa T.f78_2 rfl ?_
    first | refine S_ixan T.ar74 rfl rfl (by omega) ?_ | refine S_ixa1 T.ar74 rfl rfl (by omega) (by omega) ?_
    refine S_ldK T.ag3 rfl (fun K' hK' => ?_)
    simp (disch := omega) only [wlT hB, wlLit hB, wlSize hB, wlUsed hB, wlFresh hB, wlWeak hB, wlList hB, wlVis hB, oP_some, Nat.add_zero]
    refine hK' _ ?_; clear hK' K'
    rw [hsz]
    refine S_bin rfl rfl rfl ?_
    refine S_nil (hK10 _ _ (V_keep [0, 1, 5, 6, 25] (by simp only [proj, lk, reduceIte, Nat.reduceEqDiff]; rfl) ?_)); clear hK10
    refine V_condp rfl (fun c136 => ?_) (fun c136 => ?_)
    · skip
      have hgl : gd (W.lits (n * 12 + i)) := hnr.1 _ (harr.2.1 i (by omega))
      have hgl2 := hgl
      unfold gd at hgl2
      refine V_skipk [0, 1, 5, 6] (by simp only [proj, lk, reduceIte, Nat.reduceEqDiff]; rfl) ?_
      refine hK9 _ _ ?_; clear hK9
      refine V_seq (fun K11 hK11 => ?_)
      refine V_block ?_
      refine V_sr T.mix (by kernel_rfl) (fun K12 hK12 => ?_)
      refine S_mv rfl ?_
      refine S_mv rfl ?_
      refine S_mv rfl ?_
      first | refine S_add rfl rfl (by omega) (by omega) ?_ | refine S_bin rfl rfl rfl ?_
      refine S_nc rfl ?_
      first | refine S_fa0 T.f78_1 rfl ?_ | refine S_fa T.f78_1 rfl ?_
      first | refine S_ixan T.ar73 rfl rfl (by omega) ?_ | refine S_ixa1 T.ar73 rfl rfl (by omega) (by omega) ?_
      refine S_ldK T.ag3 rfl (fun K' hK' => ?_)
      simp (disch := omega) only [wlT hB, wlLit hB, wlSize hB, wlUsed hB, wlFresh hB, wlWeak hB, wlList hB, wlVis hB, oP_some, Nat.add_zero]
      refine hK' _ ?_; clear hK' K'
      refine S_as rfl ?_
      refine S_nil (hK12 _ _ (V_keep [0, 1, 5, 6, 7] (by simp only [proj, lk, reduceIte, Nat.reduceEqDiff]; rfl) ?_)); clear hK12
      refine V_sr T.mix (by kernel_rfl) (fun K13 hK13 => ?_)
      refine S_mv rfl ?_
      refine S_nc rfl ?_
      first | refine S_fa0 T.f78_0 rfl ?_ | refine S_fa T.f78_0 rfl ?_
      refine S_ldK T.ag30 rfl (fun K' hK' => ?_)
      simp (disch := omega) only [wlT hB, wlLit hB, wlSize hB, wlUsed hB, wlFresh hB, wlWeak hB, wlList hB, wlVis hB, oP_some, Nat.add_zero]
      refine hK' _ ?_; clear hK' K'
      refine S_mv rfl ?_
      refine S_call T.hb75 rfl ?_
      refine FC.mono (value_spec h X s p w.t ((W.lits (n * 12 + i)))) ?_
      rintro v' h' ⟨rfl, rfl⟩
      refine S_as rfl ?_
      refine S_nil (hK13 _ _ (V_keep [0, 1, 5, 6, 7, 8] (by simp only [proj, lk, reduceIte, Nat.reduceEqDiff]; rfl) ?_)); clear hK13
      refine V_sr T.mix (by kernel_rfl) (fun K14 hK14 => ?_)
      refine S_mv rfl ?_
      refine S_bin rfl rfl rfl ?_
      refine S_nil (hK14 _ _ (V_keep [0, 1, 5, 6, 7, 43] (by simp only [proj, lk, reduceIte, Nat.reduceEqDiff]; rfl) ?_)); clear hK14
      refine V_condp rfl (fun c139 => ?_) (fun c139 => ?_)
      · skip
        refine V_sr T.mix (by kernel_rfl) (fun K15 hK15 => ?_)
        refine S_mv rfl ?_
        refine S_call T.hb52 rfl ?_
        refine FC.mono (var_spec _ ((W.lits (n * 12 + i))) (by omega) (by omega)) ?_
        rintro v' h' ⟨rfl, rfl⟩
        refine S_as rfl ?_
        refine S_nil (hK15 _ _ (V_keep [0, 1, 5, 6, 9] (by simp only [proj, lk, reduceIte, Nat.reduceEqDiff]; rfl) ?_)); clear hK15
        refine V_sr T.mix (by kernel_rfl) (fun K16 hK16 => ?_)
        refine S_mv rfl ?_
        refine S_nc rfl ?_
        first | refine S_fa0 T.f78_0 rfl ?_ | refine S_fa T.f78_0 rfl ?_
        refine S_ldK T.ag30 rfl (fun K' hK' => ?_)
        simp (disch := omega) only [wlT hB, wlLit hB, wlSize hB, wlUsed hB, wlFresh hB, wlWeak hB, wlList hB, wlVis hB, oP_some, Nat.add_zero]
        refine hK' _ ?_; clear hK' K'
        refine S_mv rfl ?_
        refine S_call T.hb53 rfl ?_
        refine FC.mono (reason_spec h X s p w.t ((W.lits (n * 12 + i)).natAbs : Int)) ?_
        rintro v' h' ⟨rfl, rfl⟩
        refine S_as rfl ?_
        refine S_nil (hK16 _ _ (V_keep [0, 1, 5, 6, 10] (by simp only [proj, lk, reduceIte, Nat.reduceEqDiff]; rfl) ?_)); clear hK16
        refine V_sr T.mix (by kernel_rfl) (fun K17 hK17 => ?_)
        refine S_mv rfl ?_
        refine S_mv rfl ?_
        refine S_bin rfl rfl rfl ?_
        refine S_nil (hK17 _ _ (V_keep [0, 1, 5, 6, 54] (by simp only [proj, lk, reduceIte, Nat.reduceEqDiff]; rfl) ?_)); clear hK17
        refine V_condp rfl (fun c142 => ?_) (fun c142 => ?_)
        · skip
          refine V_sr T.mix (by kernel_rfl) (fun K18 hK18 => ?_)
          refine S_as rfl ?_
          refine S_nil (hK18 _ _ (V_keep [4] (by simp only [proj, lk, reduceIte, Nat.reduceEqDiff]; rfl) ?_)); clear hK18
          refine V_ret ?_
          refine hR _ _ (ret1 rfl rfl ?_)
          have hrv : remV cl s (n : Int) = 14 := by unfold remV; rw [hlv]; simp only [Int.toNat_natCast]; rw [if_pos (lockB_yes (harr.2.1 i (by omega)) (by unfold lockL; simp [c139, c142]))]
          refine ⟨W, by rw [hrv]; rfl, ?_, rfl, fun i e => ⟨e, fun z => by omega⟩, hE⟩
          rw [show remS cl s (n : Int) = cl by unfold remS; rw [if_neg (by omega)]]; exact w
        · skip
          refine V_skipk [0, 1, 5, 6] (by simp only [proj, lk, reduceIte, Nat.reduceEqDiff]; rfl) ?_
          refine hK11 _ _ ?_; clear hK11
          refine V_reg T.mix (by kernel_rfl) ?_
          refine S_mv rfl ?_
          first | refine S_add rfl rfl (by omega) (by omega) ?_ | refine S_bin rfl rfl rfl ?_
          refine S_as rfl ?_
          refine S_nilk [0, 1, 5, 6] (by simp only [proj, lk, reduceIte, Nat.reduceEqDiff]; rfl) ?_
          exact hK8 _ _ ⟨_, by omega, i + 1, by omega, fun j hj => by by_cases e : j = i; (rw [e]; unfold lockL; simp [c139, c142]); (exact hnl j (by omega)), rfl, rfl, rfl⟩
      · skip
        refine V_skipk [0, 1, 5, 6] (by simp only [proj, lk, reduceIte, Nat.reduceEqDiff]; rfl) ?_
        refine hK11 _ _ ?_; clear hK11
        refine V_reg T.mix (by kernel_rfl) ?_
        refine S_mv rfl ?_
        first | refine S_add rfl rfl (by omega) (by omega) ?_ | refine S_bin rfl rfl rfl ?_
        refine S_as rfl ?_
        refine S_nilk [0, 1, 5, 6] (by simp only [proj, lk, reduceIte, Nat.reduceEqDiff]; rfl) ?_
        exact hK8 _ _ ⟨_, by omega, i + 1, by omega, fun j hj => by by_cases e : j = i; (rw [e]; unfold lockL; simp [c139]); (exact hnl j (by omega)), rfl, rfl, rfl⟩
    · skip
      have hie : i = cc.length := by omega
      have hnlk := lockB_no harr (fun j hj => hnl j (by omega))
      have hrv : remV cl s (n : Int) = 0 := by unfold remV; rw [hlv]; simp [hnlk]
      refine V_exitk [0, 1] rfl (by simp only [proj, lk, reduceIte, Nat.reduceEqDiff]; rfl) ?_
      refine hK6 _ _ ?_; clear hK6
      refine V_sr T.mix (by kernel_rfl) (fun K19 hK19 => ?_)
      refine S_mv rfl ?_
      refine S_call T.hb118 rfl ?_
      refine FC.mono (bit_spec h n hid) ?_
      rintro v' h' ⟨rfl, rfl⟩
      refine S_as rfl ?_
      refine S_nil (hK19 _ _ (V_keep [0, 1, 11] (by simp only [proj, lk, reduceIte, Nat.reduceEqDiff]; rfl) ?_)); clear hK19
      refine V_seqJ (fun l h' => ∃ (h5 : Heap) (Lk : Nat → Nat), (WB h5 C X { W with list := Lk }) ∧ (∀ q j, j ≠ n → (Lk q).testBit j = (W.list q).testBit j) ∧ (∀ q, q < 26 → (Lk q).testBit n = false) ∧ (Ext (fun x => x = C) h h5) ∧ l = [(0, .pointer (some ⟨C, 0, none⟩)), (1, .int .i64 (n : Int)), (11, .int .u64 ((2 ^ n : Nat) : Int))] ∧ h5 = h') ?_ ?_
      · skip
        refine V_sr T.mix (by kernel_rfl) (fun K21 hK21 => ?_)
        refine S_mv rfl ?_
        refine S_nc rfl ?_
        first | refine S_fa0 T.f78_4 rfl ?_ | refine S_fa T.f78_4 rfl ?_
        refine S_ldK T.ag75 rfl (fun K' hK' => ?_)
        simp (disch := omega) only [wlT hB, wlLit hB, wlSize hB, wlUsed hB, wlFresh hB, wlWeak hB, wlList hB, wlVis hB, oP_some, Nat.add_zero]
        refine hK' _ ?_; clear hK' K'
        refine S_mv rfl ?_
        refine S_nc rfl ?_
        first | refine S_fa0 T.f78_5 rfl ?_ | refine S_fa T.f78_5 rfl ?_
        refine S_ldK T.ag75 rfl (fun K' hK' => ?_)
        simp (disch := omega) only [wlT hB, wlLit hB, wlSize hB, wlUsed hB, wlFresh hB, wlWeak hB, wlList hB, wlVis hB, oP_some, Nat.add_zero]
        refine hK' _ ?_; clear hK' K'
        refine S_nor W.fresh W.weak _ rfl rfl rfl rfl rfl (t52 hlt.2.1) (t52 hlt.2.2) ?_
        refine S_mv rfl ?_
        refine S_nand (W.fresh ||| W.weak) (2 ^ n) _ rfl rfl rfl rfl rfl (t52 (or52 hlt.2.1 hlt.2.2)) (t52 (p52 hid)) ?_
        refine S_bin rfl rfl rfl ?_
        refine S_nil (hK21 _ _ (V_keep [0, 1, 11, 68] (by simp only [proj, lk, reduceIte, Nat.reduceEqDiff]; rfl) ?_)); clear hK21
        refine V_condp rfl (fun c148 => ?_) (fun c148 => ?_)
        · skip
          have hd0 : dueW W n = false := by
            have h9 := and_zero.1 (show (W.fresh ||| W.weak) &&& 2 ^ n = 0 by omega)
            rw [Nat.testBit_or] at h9; exact h9
          have hsd : (vw W n).sd = true := by
            unfold dueW at hd0
            simp only [Vw.sd, vw, Bool.or_eq_false_iff] at hd0 ⊢
            rw [hd0.1, hd0.2, w.i.u hid, hcl]; rfl
          have hs2 := hLo.s hsd
          have hn2 : 2 ≤ cc.length := by rw [← hsz]; exact hs2.1
          have hg0 : gd (W.lits (n * 12)) := hnr.1 _ (harr.2.1 0 (by omega))
          have hg1 : gd (W.lits (n * 12 + 1)) := hnr.1 _ (harr.2.1 1 (by omega))
          refine V_reg T.mix (by kernel_rfl) ?_
          refine S_mv rfl ?_
          refine S_mv rfl ?_
          refine S_call T.hb145 rfl ?_
          refine FC.mono (unlink_spec h C X W hB n hid hg0 hg1 (fun q hq => w.i.llt hq)) ?_
          rintro v' h5 ⟨rfl, hB5, hE5⟩
          refine S_nilk [0, 1, 11] (by simp only [proj, lk, reduceIte, Nat.reduceEqDiff]; rfl) ?_
          exact ⟨h5, _, hB5, fun q j hj => ul_oth q j hj, fun q hq => by rw [ul_bit]; have h9 := hLo.l q hq; rw [vw_l hq, hsd, vw_a (by omega), vw_a (by omega), Nat.add_zero, Bool.true_and] at h9; rw [h9, decide_eq_true (rfl : n = n)]; generalize (decide (cdn (W.lits (n * 12)) = q) || decide (cdn (W.lits (n * 12 + 1)) = q)) = z; cases z <;> rfl, hE5, rfl, rfl⟩
        · skip
          have hd1 : dueW W n = true := by
            cases e : dueW W n with
            | true => rfl
            | false => exact absurd (by rw [and_zero.2 (by rw [Nat.testBit_or]; exact e)]; rfl) c148
          have hnl9 := due_no w.i hid hd1
          refine V_skipk [0, 1, 11] (by simp only [proj, lk, reduceIte, Nat.reduceEqDiff]; rfl) ?_
          exact ⟨h, W.list, hB, fun q j hj => rfl, hnl9, hE, rfl, rfl⟩
      rintro l h' ⟨h5, Lk, hB5, hq1, hq2, hE5, rfl, rfl⟩
      clear hB hE
      have hB := hB5
      have hE := hE5
      refine V_sr T.mix (by kernel_rfl) (fun K22 hK22 => ?_)
      refine S_mv rfl ?_
      refine S_nc rfl ?_
      first | refine S_fa0 T.f78_3 rfl ?_ | refine S_fa T.f78_3 rfl ?_
      refine S_ldK T.ag75 rfl (fun K' hK' => ?_)
      simp (disch := omega) only [wlT hB, wlLit hB, wlSize hB, wlUsed hB, wlFresh hB, wlWeak hB, wlList hB, wlVis hB, oP_some, Nat.add_zero]
      refine hK' _ ?_; clear hK' K'
      refine S_mv rfl ?_
      refine S_nandn W.used (2 ^ n) rfl rfl rfl rfl rfl (b52 hlt.1) (b52 (p52 hid)) ?_
      refine S_nc rfl ?_
      first | refine S_fa0 T.f78_3 rfl ?_ | refine S_fa T.f78_3 rfl ?_
      refine S_st T.sz75 rfl rfl rfl rfl (by simp (disch := omega) only [wok hB]) ?_
      generalize hh : putH _ _ _ = h6
      have hBh6 : WB h6 C X { W with list := Lk, used := wo W.used (2 ^ n) } := by rw [← hh]; exact wsUsed hB (wo W.used (2 ^ n))
      have hEh6 : Ext (fun x => x = C) h5 h6 := by rw [← hh]; exact Ext.put _ _ rfl
      clear hh
      replace hE := hE.trans hEh6
      clear hB
      have hB := hBh6
      refine S_nil (hK22 _ _ (V_keep [0, 1, 11] (by simp only [proj, lk, reduceIte, Nat.reduceEqDiff]; rfl) ?_)); clear hK22
      refine V_sr T.mix (by kernel_rfl) (fun K23 hK23 => ?_)
      refine S_mv rfl ?_
      refine S_nc rfl ?_
      first | refine S_fa0 T.f78_4 rfl ?_ | refine S_fa T.f78_4 rfl ?_
      refine S_ldK T.ag75 rfl (fun K' hK' => ?_)
      simp (disch := omega) only [wlT hB, wlLit hB, wlSize hB, wlUsed hB, wlFresh hB, wlWeak hB, wlList hB, wlVis hB, oP_some, Nat.add_zero]
      refine hK' _ ?_; clear hK' K'
      refine S_mv rfl ?_
      refine S_nandn W.fresh (2 ^ n) rfl rfl rfl rfl rfl (b52 hlt.2.1) (b52 (p52 hid)) ?_
      refine S_nc rfl ?_
      first | refine S_fa0 T.f78_4 rfl ?_ | refine S_fa T.f78_4 rfl ?_
      refine S_st T.sz75 rfl rfl rfl rfl (by simp (disch := omega) only [wok hB]) ?_
      generalize hh : putH _ _ _ = h7
      have hBh7 : WB h7 C X { W with list := Lk, used := wo W.used (2 ^ n), fresh := wo W.fresh (2 ^ n) } := by rw [← hh]; exact wsFresh hB (wo W.fresh (2 ^ n))
      have hEh7 : Ext (fun x => x = C) h6 h7 := by rw [← hh]; exact Ext.put _ _ rfl
      clear hh
      replace hE := hE.trans hEh7
      clear hB
      have hB := hBh7
      refine S_nil (hK23 _ _ (V_keep [0, 1, 11] (by simp only [proj, lk, reduceIte, Nat.reduceEqDiff]; rfl) ?_)); clear hK23
      refine V_sr T.mix (by kernel_rfl) (fun K24 hK24 => ?_)
      refine S_mv rfl ?_
      refine S_nc rfl ?_
      first | refine S_fa0 T.f78_5 rfl ?_ | refine S_fa T.f78_5 rfl ?_
      refine S_ldK T.ag75 rfl (fun K' hK' => ?_)
      simp (disch := omega) only [wlT hB, wlLit hB, wlSize hB, wlUsed hB, wlFresh hB, wlWeak hB, wlList hB, wlVis hB, oP_some, Nat.add_zero]
      refine hK' _ ?_; clear hK' K'
      refine S_mv rfl ?_
      refine S_nandn W.weak (2 ^ n) rfl rfl rfl rfl rfl (b52 hlt.2.2) (b52 (p52 hid)) ?_
      refine S_nc rfl ?_
      first | refine S_fa0 T.f78_5 rfl ?_ | refine S_fa T.f78_5 rfl ?_
      refine S_st T.sz75 rfl rfl rfl rfl (by simp (disch := omega) only [wok hB]) ?_
      generalize hh : putH _ _ _ = h8
      have hBh8 : WB h8 C X { W with list := Lk, used := wo W.used (2 ^ n), fresh := wo W.fresh (2 ^ n), weak := wo W.weak (2 ^ n) } := by rw [← hh]; exact wsWeak hB (wo W.weak (2 ^ n))
      have hEh8 : Ext (fun x => x = C) h7 h8 := by rw [← hh]; exact Ext.put _ _ rfl
      clear hh
      replace hE := hE.trans hEh8
      clear hB
      have hB := hBh8
      refine S_nil (hK24 _ _ (V_keep [0, 1] (by simp only [proj, lk, reduceIte, Nat.reduceEqDiff]; rfl) ?_)); clear hK24
      refine V_sr T.mix (by kernel_rfl) (fun K25 hK25 => ?_)
      refine S_mv rfl ?_
      refine S_mv rfl ?_
      refine S_nc rfl ?_
      first | refine S_fa0 T.f78_2 rfl ?_ | refine S_fa T.f78_2 rfl ?_
      first | refine S_ixan T.ar74 rfl rfl (by omega) ?_ | refine S_ixa1 T.ar74 rfl rfl (by omega) (by omega) ?_
      refine S_st T.sz3 rfl rfl rfl rfl (by simp (disch := omega) only [wok hB]) ?_
      generalize hh : putH _ _ _ = h9
      have hBh9 : WB h9 C X { W with list := Lk, used := wo W.used (2 ^ n), fresh := wo W.fresh (2 ^ n), weak := wo W.weak (2 ^ n), size := upN W.size n 0 } := by rw [← hh]; exact wsSize hB n 0 hid
      have hEh9 : Ext (fun x => x = C) h8 h9 := by rw [← hh]; exact Ext.put _ _ rfl
      clear hh
      replace hE := hE.trans hEh9
      clear hB
      have hB := hBh9
      refine S_nil (hK25 _ _ (V_keep [] (by simp only [proj, lk, reduceIte, Nat.reduceEqDiff]; rfl) ?_)); clear hK25
      refine V_sr T.mix (by kernel_rfl) (fun K26 hK26 => ?_)
      refine S_as rfl ?_
      refine S_nil (hK26 _ _ (V_keep [4] (by simp only [proj, lk, reduceIte, Nat.reduceEqDiff]; rfl) ?_)); clear hK26
      refine V_ret ?_
      refine hR _ _ (ret1 rfl rfl ?_)
      refine ⟨{ W with list := Lk, used := wo W.used (2 ^ n), fresh := wo W.fresh (2 ^ n), weak := wo W.weak (2 ^ n), size := upN W.size n 0 }, by rw [hrv]; rfl, ?_, rfl, fun i e => ?_, hE⟩
      · rw [show remS cl s (n : Int) = upO cl n none by unfold remS; rw [if_pos hrv, Int.toNat_natCast]]
        have hvw : ∀ j, j ≠ n → vw { W with list := Lk, used := wo W.used (2 ^ n), fresh := wo W.fresh (2 ^ n), weak := wo W.weak (2 ^ n), size := upN W.size n 0 } j = vw W j := fun j hj => vw_eq (wo_ne hj) (wo_ne hj) (wo_ne hj) (upN_ne hj) (fun q hq => rfl) (fun q hq => hq1 q j hj)
        refine ⟨hB, w.i.set hid hvw (Go.Wat.Loc.dead ?_ ?_ ?_ ?_ (fun q hq => ?_)), w.t.ext hE (fun e => w.ne e.symm), w.ne⟩
        · simp only [vw]; rw [wo_bit2]; simp
        · simp only [vw]; rw [wo_bit2]; simp
        · simp only [vw]; rw [wo_bit2]; simp
        · simp only [vw, upN_self]
        · rw [vw_l hq]; exact hq2 q hq
      · unfold dueW at e ⊢; simp only [wo_bit2] at e
        by_cases z : n = i
        · simp [z] at e
        · exact ⟨by simpa [z] using e, fun q => z (by omega)⟩
set_option maxHeartbeats 1600000 in
theorem wclause_spec (h : Heap) (C X : Nat) (W : WC) (cl : Nat → Option (List Int)) (s : TS) (p : Nat) (w : WX h C X W cl s p) (id : Int) :
    FC Tryz.prog 15 (#[.pointer (some ⟨C, 0, none⟩), .int .i64 id] : Array Value) h fun rv h' => ∃ a', rv = .tuple #[.slice a' (clF cl id).length (clF cl id).length, .int .i64 (clE cl id : Int)] ∧ IL h' a' (clF cl id).length (clF cl id) ∧ ((clF cl id).length = 0 → a' = none) ∧ (∀ b, blkA a' = some b → h.size ≤ b) ∧ Ext (fun _ => False) h h' := by
  have hB := w.b
  have hE := Ext.refl (fun x => x = C) h
  have hlt := w.i.lt
  refine FC_of [(0, .pointer (some ⟨C, 0, none⟩)), (1, .int .i64 id)] Tryz.func15 rfl Tryz.ntmps15 (by simp) rfl (fun R hR => ?_)
  refine V_sr T.mix (by kernel_rfl) (fun K1 hK1 => ?_)
  refine S_as rfl ?_
  refine S_as rfl ?_
  refine S_nil (hK1 _ _ (V_keep [0, 1] (by simp only [proj, lk, reduceIte, Nat.reduceEqDiff]; rfl) ?_)); clear hK1
  refine V_seq (fun K2 hK2 => ?_)
  refine V_sr T.mix (by kernel_rfl) (fun K3 hK3 => ?_)
  refine S_mv rfl ?_
  refine S_mv rfl ?_
  refine S_call T.hb26 rfl ?_
  refine FC.mono (wlive_spec h C X W hB hlt.1 id) ?_
  rintro v' h' ⟨g, rfl, hg, rfl⟩
  refine S_notb rfl ?_
  refine S_nil (hK3 _ _ (V_keep [0, 1, 18] (by simp only [proj, lk, reduceIte, Nat.reduceEqDiff]; rfl) ?_)); clear hK3
  refine V_condb rfl (fun c160 => ?_) (fun c160 => ?_)
  · skip
    refine V_sr T.mix (by kernel_rfl) (fun K4 hK4 => ?_)
    refine S_as rfl ?_
    refine S_as rfl ?_
    refine S_nil (hK4 _ _ (V_keep [4, 5] (by simp only [proj, lk, reduceIte, Nat.reduceEqDiff]; rfl) ?_)); clear hK4
    refine V_ret ?_
    refine hR _ _ (ret2 rfl rfl rfl ?_)
    simp only [Bool.not_eq_true'] at c160
    have hlv := live_no w.i hg c160
    have hcF : clF cl id = [] := by unfold clF; rw [hlv]; rfl
    have hcE : clE cl id = 13 := by unfold clE; rw [hlv]
    exact ⟨none, by rw [hcF, hcE]; rfl, by rw [hcF]; exact IL.nil _, fun _ => rfl, by simp [blkA], Ext.refl _ _⟩
  · skip
    simp only [Bool.not_eq_false'] at c160
    obtain ⟨n, cc, rfl, hid, hcl⟩ := live_yes w.i hg c160
    obtain ⟨hnr, hsz, harr⟩ := wi_arr w.i hid hcl
    have hln := hnr.len
    have hlv : liveC cl (n : Int) = some cc := by rw [liveC_nat hid, hcl]
    have hcF : clF cl (n : Int) = cc := by unfold clF; rw [hlv]; rfl
    have hcE : clE cl (n : Int) = 0 := by unfold clE; rw [hlv]
    refine V_skipk [0, 1] (by simp only [proj, lk, reduceIte, Nat.reduceEqDiff]; rfl) ?_
    refine hK2 _ _ ?_; clear hK2
    refine V_sr T.mix (by kernel_rfl) (fun K5 hK5 => ?_)
    refine S_mv rfl ?_
    refine S_mv rfl ?_
    refine S_nc rfl ?_
    first | refine S_fa0 T.f78_2 rfl ?_ | refine S_fa T.f78_2 rfl ?_
    first | refine S_ixan T.ar74 rfl rfl (by omega) ?_ | refine S_ixa1 T.ar74 rfl rfl (by omega) (by omega) ?_
    refine S_ldK T.ag3 rfl (fun K' hK' => ?_)
    simp (disch := omega) only [wlT hB, wlLit hB, wlSize hB, wlUsed hB, wlFresh hB, wlWeak hB, wlList hB, wlVis hB, oP_some, Nat.add_zero]
    refine hK' _ ?_; clear hK' K'
    rw [hsz]
    refine S_as rfl ?_
    refine S_nil (hK5 _ _ (V_keep [0, 1, 6] (by simp only [proj, lk, reduceIte, Nat.reduceEqDiff]; rfl) ?_)); clear hK5
    refine V_seq (fun K6 hK6 => ?_)
    refine V_sr T.mix (by kernel_rfl) (fun K7 hK7 => ?_)
    refine S_mv rfl ?_
    refine S_bin rfl rfl rfl ?_
    refine S_nil (hK7 _ _ (V_keep [0, 1, 6, 26] (by simp only [proj, lk, reduceIte, Nat.reduceEqDiff]; rfl) ?_)); clear hK7
    refine V_condp rfl (fun c164 => ?_) (fun c164 => ?_)
    · skip
      refine V_sr T.mix (by kernel_rfl) (fun K8 hK8 => ?_)
      refine S_as rfl ?_
      refine S_as rfl ?_
      refine S_nil (hK8 _ _ (V_keep [4, 5] (by simp only [proj, lk, reduceIte, Nat.reduceEqDiff]; rfl) ?_)); clear hK8
      refine V_ret ?_
      refine hR _ _ (ret2 rfl rfl rfl ?_)
      have hce : cc = [] := List.eq_nil_of_length_eq_zero (by omega)
      exact ⟨none, by rw [hcF, hcE, hce]; rfl, by rw [hcF, hce]; exact IL.nil _, fun _ => rfl, by simp [blkA], Ext.refl _ _⟩
    · skip
      refine V_skipk [0, 1, 6] (by simp only [proj, lk, reduceIte, Nat.reduceEqDiff]; rfl) ?_
      refine hK6 _ _ ?_; clear hK6
      refine V_sr T.mix (by kernel_rfl) (fun K9 hK9 => ?_)
      refine S_mv rfl ?_
      first | refine S_mul rfl rfl (by omega) (by omega) ?_ | refine S_bin rfl rfl rfl ?_
      refine S_as rfl ?_
      refine S_nil (hK9 _ _ (V_keep [0, 6, 7] (by simp only [proj, lk, reduceIte, Nat.reduceEqDiff]; rfl) ?_)); clear hK9
      refine V_sr T.mix (by kernel_rfl) (fun K10 hK10 => ?_)
      refine S_as rfl ?_
      refine S_as rfl ?_
      refine S_nil (hK10 _ _ (V_keep [0, 6, 7, 8, 9] (by simp only [proj, lk, reduceIte, Nat.reduceEqDiff]; rfl) ?_)); clear hK10
      refine V_seq (fun K11 hK11 => ?_)
      refine V_sr T.mix (by kernel_rfl) (fun K12 hK12 => ?_)
      refine S_as rfl ?_
      refine S_nil (hK12 _ _ (V_keep [0, 6, 7, 8, 9, 10] (by simp only [proj, lk, reduceIte, Nat.reduceEqDiff]; rfl) ?_)); clear hK12
      refine V_block ?_
      refine V_loop (fun m l h' => ∃ (i : Nat) (ps ns : Nat), (i ≤ cc.length) ∧ (ps < 8192) ∧ (ns < 8192) ∧ (∀ v : Nat, ps.testBit v = true ↔ ∃ j, j < i ∧ W.lits (n * 12 + j) = 1 * (v : Int) ∧ 0 < v) ∧ (∀ v : Nat, ns.testBit v = true ↔ ∃ j, j < i ∧ W.lits (n * 12 + j) = -1 * (v : Int) ∧ 0 < v) ∧ m = cc.length - i ∧ l = [(0, .pointer (some ⟨C, 0, none⟩)), (6, .int .i64 (cc.length : Int)), (7, .int .i64 ((n * 12 : Nat) : Int)), (8, .int .u16 (ps : Int)), (9, .int .u16 (ns : Int)), (10, .int .i64 (i : Int))] ∧ h = h') _ ⟨0, 0, 0, by omega, by omega, by omega, fun v => by simp, fun v => by simp, rfl, rfl, rfl⟩ ?_
      rintro m l h' ⟨i, ps, ns, hi, hpl, hnl, hpb, hnb, rfl, rfl, rfl⟩ K13 hK13
      refine V_seq (fun K14 hK14 => ?_)
      refine V_sr T.mix (by kernel_rfl) (fun K15 hK15 => ?_)
      refine S_mv rfl ?_
      refine S_mv rfl ?_
      refine S_bin rfl rfl rfl ?_
      refine S_nil (hK15 _ _ (V_keep [0, 6, 7, 8, 9, 10, 31] (by simp only [proj, lk, reduceIte, Nat.reduceEqDiff]; rfl) ?_)); clear hK15
      refine V_condp rfl (fun c169 => ?_) (fun c169 => ?_)
      · skip
        have hgl : gd (W.lits (n * 12 + i)) := hnr.1 _ (harr.2.1 i (by omega))
        have hgl2 := hgl
        unfold gd at hgl2
        refine V_skipk [0, 6, 7, 8, 9, 10] (by simp only [proj, lk, reduceIte, Nat.reduceEqDiff]; rfl) ?_
        refine hK14 _ _ ?_; clear hK14
        refine V_seq (fun K16 hK16 => ?_)
        refine V_block ?_
        refine V_sr T.mix (by kernel_rfl) (fun K17 hK17 => ?_)
        refine S_mv rfl ?_
        refine S_mv rfl ?_
        refine S_mv rfl ?_
        first | refine S_add rfl rfl (by omega) (by omega) ?_ | refine S_bin rfl rfl rfl ?_
        refine S_nc rfl ?_
        first | refine S_fa0 T.f78_1 rfl ?_ | refine S_fa T.f78_1 rfl ?_
        first | refine S_ixan T.ar73 rfl rfl (by omega) ?_ | refine S_ixa1 T.ar73 rfl rfl (by omega) (by omega) ?_
        refine S_ldK T.ag3 rfl (fun K' hK' => ?_)
        simp (disch := omega) only [wlT hB, wlLit hB, wlSize hB, wlUsed hB, wlFresh hB, wlWeak hB, wlList hB, wlVis hB, oP_some, Nat.add_zero]
        refine hK' _ ?_; clear hK' K'
        refine S_as rfl ?_
        refine S_nil (hK17 _ _ (V_keep [0, 6, 7, 8, 9, 10, 11] (by simp only [proj, lk, reduceIte, Nat.reduceEqDiff]; rfl) ?_)); clear hK17
        refine V_sr T.mix (by kernel_rfl) (fun K18 hK18 => ?_)
        refine S_mv rfl ?_
        refine S_bin rfl rfl rfl ?_
        refine S_nil (hK18 _ _ (V_keep [0, 6, 7, 8, 9, 10, 11, 43] (by simp only [proj, lk, reduceIte, Nat.reduceEqDiff]; rfl) ?_)); clear hK18
        refine V_condp rfl (fun c171 => ?_) (fun c171 => ?_)
        · skip
          obtain ⟨u, hu⟩ : ∃ u : Nat, (W.lits (n * 12 + i)) = u := ⟨(W.lits (n * 12 + i)).toNat, by omega⟩
          rw [hu]
          refine V_reg T.mix (by kernel_rfl) ?_
          refine S_mv rfl ?_
          refine S_mv rfl ?_
          first | refine S_cvn T.us3 T.in57 rfl rfl (by first | omega | (simp only [IntKind.bits]; omega)) ?_ | refine S_cvu T.us3 T.in57 rfl (by omega) (by omega) ?_ | refine S_cv T.us3 T.in57 rfl ?_
          refine S_nshl 1 u (2 ^ u) rfl rfl rfl rfl (Nat.one_mul _) (show u ≤ 16 by omega) (t13 (p13 (by omega))) ?_
          refine S_nor ps (2 ^ u) _ rfl rfl rfl rfl rfl (t13 hpl) (t13 (p13 (by omega))) ?_
          refine S_as rfl ?_
          refine S_nilk [0, 6, 7, 8, 9, 10] (by simp only [proj, lk, reduceIte, Nat.reduceEqDiff]; rfl) ?_
          refine hK16 _ _ ?_; clear hK16
          refine V_reg T.mix (by kernel_rfl) ?_
          refine S_mv rfl ?_
          first | refine S_add rfl rfl (by omega) (by omega) ?_ | refine S_bin rfl rfl rfl ?_
          refine S_as rfl ?_
          refine S_nilk [0, 6, 7, 8, 9, 10] (by simp only [proj, lk, reduceIte, Nat.reduceEqDiff]; rfl) ?_
          exact hK13 _ _ ⟨_, by omega, i + 1, ps ||| 2 ^ u, ns, by omega, or13 hpl (p13 (by omega)), hnl, fun v => by rw [or_bit]; exact bits_up (f := fun j => W.lits (n * 12 + j)) (hpb v) (.inl rfl) (show W.lits (n * 12 + i) = 1 * (u : Int) by omega) (by omega), fun v => bits_keep (f := fun j => W.lits (n * 12 + j)) (hnb v) (.inr rfl) (fun e => show W.lits (n * 12 + i) ≠ -1 * (v : Int) by omega), rfl, rfl, rfl⟩
        · skip
          obtain ⟨u, hu⟩ : ∃ u : Nat, -(W.lits (n * 12 + i)) = u := ⟨(-(W.lits (n * 12 + i))).toNat, by omega⟩
          refine V_reg T.mix (by kernel_rfl) ?_
          refine S_mv rfl ?_
          refine S_mv rfl ?_
          first | refine S_neg rfl (by omega) (by omega) ?_ | refine S_un rfl rfl ?_
          rw [hu]
          refine S_cvn T.us3 T.in57 rfl rfl (by first | omega | (simp only [IntKind.bits]; omega)) ?_
          refine S_nshl 1 u (2 ^ u) rfl rfl rfl rfl (Nat.one_mul _) (show u ≤ 16 by omega) (t13 (p13 (by omega))) ?_
          refine S_nor ns (2 ^ u) _ rfl rfl rfl rfl rfl (t13 hnl) (t13 (p13 (by omega))) ?_
          refine S_as rfl ?_
          refine S_nilk [0, 6, 7, 8, 9, 10] (by simp only [proj, lk, reduceIte, Nat.reduceEqDiff]; rfl) ?_
          refine hK16 _ _ ?_; clear hK16
          refine V_reg T.mix (by kernel_rfl) ?_
          refine S_mv rfl ?_
          first | refine S_add rfl rfl (by omega) (by omega) ?_ | refine S_bin rfl rfl rfl ?_
          refine S_as rfl ?_
          refine S_nilk [0, 6, 7, 8, 9, 10] (by simp only [proj, lk, reduceIte, Nat.reduceEqDiff]; rfl) ?_
          exact hK13 _ _ ⟨_, by omega, i + 1, ps, ns ||| 2 ^ u, by omega, hpl, or13 hnl (p13 (by omega)), fun v => bits_keep (f := fun j => W.lits (n * 12 + j)) (hpb v) (.inl rfl) (fun e => show W.lits (n * 12 + i) ≠ 1 * (v : Int) by omega), fun v => by rw [or_bit]; exact bits_up (f := fun j => W.lits (n * 12 + j)) (hnb v) (.inr rfl) (show W.lits (n * 12 + i) = -1 * (u : Int) by omega) (by omega), rfl, rfl, rfl⟩
      · skip
        have hie : i = cc.length := by omega
        subst hie
        refine V_exitk [6, 8, 9] rfl (by simp only [proj, lk, reduceIte, Nat.reduceEqDiff]; rfl) ?_
        refine hK11 _ _ ?_; clear hK11
        refine V_sr T.mix (by kernel_rfl) (fun K19 hK19 => ?_)
        refine S_mv rfl ?_
        refine S_mk T.ei49 rfl rfl (by omega) (by omega) (by omega) (by omega) ?_
        simp only [Int.toNat_natCast, Nat.mul_one, mkZ_one]
        generalize hh : Array.push h _ = h1
        have hO1 : B h1 h.size (arr cc.length fun _ => .int .i64 0) 3 := by rw [← hh]; exact B.new _ _ _
        have hE1 : Ext (fun _ => False) h h1 := by rw [← hh]; exact Ext.push _ _ _
        clear hh
        refine S_as rfl ?_
        refine S_nil (hK19 _ _ (V_keep [8, 9, 12] (by simp only [proj, lk, reduceIte, Nat.reduceEqDiff]; rfl) ?_)); clear hK19
        refine V_sr T.mix (by kernel_rfl) (fun K20 hK20 => ?_)
        refine S_as rfl ?_
        refine S_nil (hK20 _ _ (V_keep [8, 9, 12, 13] (by simp only [proj, lk, reduceIte, Nat.reduceEqDiff]; rfl) ?_)); clear hK20
        refine V_seq (fun K21 hK21 => ?_)
        refine V_sr T.mix (by kernel_rfl) (fun K22 hK22 => ?_)
        refine S_as rfl ?_
        refine S_nil (hK22 _ _ (V_keep [8, 9, 12, 13, 14] (by simp only [proj, lk, reduceIte, Nat.reduceEqDiff]; rfl) ?_)); clear hK22
        refine V_block ?_
        refine V_loop (fun m l h' => ∃ (v : Nat) (k : Nat) (hk : Heap), (k = (pf cc v).length) ∧ (1 ≤ v) ∧ (v ≤ 13) ∧ (B hk h.size (arr cc.length fun j => .int .i64 ((pf cc v).getD j 0)) 3) ∧ (Ext (fun _ => False) h hk) ∧ m = 13 - v ∧ l = [(8, .int .u16 (ps : Int)), (9, .int .u16 (ns : Int)), (12, .slice (some ⟨h.size, 0, none⟩) cc.length cc.length), (13, .int .i64 (k : Int)), (14, .int .i64 (v : Int))] ∧ hk = h') _ ⟨1, 0, h1, by rw [pf_zero hnr.1]; rfl, by omega, by omega, by rw [pf_zero hnr.1]; exact hO1.cong (arr_ext fun j hj => by simp), hE1, rfl, rfl, rfl⟩ ?_
        rintro m l h' ⟨v, k, hk, hkl, hv1, hv2, hOk, hEk, rfl, rfl, rfl⟩ K23 hK23
        subst hkl
        have hpl0 := hpl
        have hnl0 := hnl
        have hpl9 := pf_len cc v
        have hOk2 : ∀ j, j < cc.length → okPut hk ⟨h.size, j, none⟩ = true := fun j hj => hOk.okA hj
        refine V_seq (fun K24 hK24 => ?_)
        refine V_sr T.mix (by kernel_rfl) (fun K25 hK25 => ?_)
        refine S_mv rfl ?_
        refine S_bin rfl rfl rfl ?_
        refine S_nil (hK25 _ _ (V_keep [8, 9, 12, 13, 14, 58] (by simp only [proj, lk, reduceIte, Nat.reduceEqDiff]; rfl) ?_)); clear hK25
        refine V_condp rfl (fun c179 => ?_) (fun c179 => ?_)
        · skip
          refine V_skipk [8, 9, 12, 13, 14] (by simp only [proj, lk, reduceIte, Nat.reduceEqDiff]; rfl) ?_
          refine hK24 _ _ ?_; clear hK24
          refine V_seq (fun K26 hK26 => ?_)
          refine V_block ?_
          refine V_sr T.mix (by kernel_rfl) (fun K27 hK27 => ?_)
          refine S_mv rfl ?_
          refine S_mv rfl ?_
          first | refine S_cvn T.us3 T.in57 rfl rfl (by first | omega | (simp only [IntKind.bits]; omega)) ?_ | refine S_cvu T.us3 T.in57 rfl (by omega) (by omega) ?_ | refine S_cv T.us3 T.in57 rfl ?_
          refine S_nshr ps v _ rfl rfl rfl rfl rfl (show v ≤ 16 by omega) ?_
          refine S_nand (ps / 2 ^ v) 1 _ rfl rfl rfl rfl rfl (t13 (Nat.lt_of_le_of_lt (Nat.div_le_self _ _) hpl0)) (by decide) ?_
          rw [Nat.and_one_is_mod]
          refine S_bin rfl rfl rfl ?_
          refine S_nil (hK27 _ _ (V_keep [8, 9, 12, 13, 14, 66] (by simp only [proj, lk, reduceIte, Nat.reduceEqDiff]; rfl) ?_)); clear hK27
          refine V_condp rfl (fun c180 => ?_) (fun c180 => ?_)
          · skip
            have hin : (v : Int) ∈ cc := by
              obtain ⟨j, hj, e, _⟩ := (hpb v).1 (bit_mod.1 (by omega))
              rw [show (v : Int) = W.lits (n * 12 + j) by omega]; exact harr.2.1 j (by omega)
            have hpo := pf_one hnr.2 hin (v := v) (by simp)
            have hpl := pf_lt hnr.2 hin (v := v) (by simp)
            refine V_sr T.mix (by kernel_rfl) (fun K28 hK28 => ?_)
            refine S_mv rfl ?_
            refine S_mv rfl ?_
            refine S_mv rfl ?_
            first | refine S_ixn T.el49 rfl rfl (by omega) ?_ | refine S_ix1 T.el49 rfl rfl (by omega) (by omega) ?_ | refine S_ix T.el49 rfl rfl (by omega) (by omega) ?_
            refine S_st T.sz3 rfl rfl rfl rfl (by simp (disch := omega) only [hOk2]) ?_
            generalize hh : putH _ _ _ = hk1
            have hO2 : B hk1 h.size (arr cc.length fun j => .int .i64 ((pf cc (v + 1)).getD j 0)) 3 := by rw [← hh]; exact (hOk.putA (pf cc v).length _).cong (arr_ext fun j hj => by rw [hpo, getD_app]; split <;> rfl)
            have hE2 : Ext (fun x => x = h.size) hk hk1 := by rw [← hh]; exact Ext.put _ _ rfl
            clear hh
            refine S_nil (hK28 _ _ (V_keep [8, 9, 12, 13, 14] (by simp only [proj, lk, reduceIte, Nat.reduceEqDiff]; rfl) ?_)); clear hK28
            refine V_reg T.mix (by kernel_rfl) ?_
            refine S_mv rfl ?_
            first | refine S_add rfl rfl (by omega) (by omega) ?_ | refine S_bin rfl rfl rfl ?_
            refine S_as rfl ?_
            refine S_nilk [8, 9, 12, 13, 14] (by simp only [proj, lk, reduceIte, Nat.reduceEqDiff]; rfl) ?_
            refine hK26 _ _ ?_; clear hK26
            refine V_reg T.mix (by kernel_rfl) ?_
            refine S_mv rfl ?_
            first | refine S_add rfl rfl (by omega) (by omega) ?_ | refine S_bin rfl rfl rfl ?_
            refine S_as rfl ?_
            refine S_nilk [8, 9, 12, 13, 14] (by simp only [proj, lk, reduceIte, Nat.reduceEqDiff]; rfl) ?_
            exact hK23 _ _ ⟨_, by omega, v + 1, (pf cc v).length + 1, hk1, by rw [hpo]; simp, by omega, by omega, hO2, hEk.step hE2 (fun b hb e => by omega), rfl, rfl, rfl⟩
          · skip
            refine V_sr T.mix (by kernel_rfl) (fun K29 hK29 => ?_)
            refine S_mv rfl ?_
            refine S_mv rfl ?_
            first | refine S_cvn T.us3 T.in57 rfl rfl (by first | omega | (simp only [IntKind.bits]; omega)) ?_ | refine S_cvu T.us3 T.in57 rfl (by omega) (by omega) ?_ | refine S_cv T.us3 T.in57 rfl ?_
            refine S_nshr ns v _ rfl rfl rfl rfl rfl (show v ≤ 16 by omega) ?_
            refine S_nand (ns / 2 ^ v) 1 _ rfl rfl rfl rfl rfl (t13 (Nat.lt_of_le_of_lt (Nat.div_le_self _ _) hnl0)) (by decide) ?_
            rw [Nat.and_one_is_mod]
            refine S_bin rfl rfl rfl ?_
            refine S_nil (hK29 _ _ (V_keep [8, 9, 12, 13, 14, 78] (by simp only [proj, lk, reduceIte, Nat.reduceEqDiff]; rfl) ?_)); clear hK29
            refine V_condp rfl (fun c183 => ?_) (fun c183 => ?_)
            · skip
              have hin : -(v : Int) ∈ cc := by
                obtain ⟨j, hj, e, _⟩ := (hnb v).1 (bit_mod.1 (by omega))
                rw [show -(v : Int) = W.lits (n * 12 + j) by omega]; exact harr.2.1 j (by omega)
              have hpo := pf_one hnr.2 hin (v := v) (by simp)
              have hpl := pf_lt hnr.2 hin (v := v) (by simp)
              refine V_sr T.mix (by kernel_rfl) (fun K30 hK30 => ?_)
              refine S_mv rfl ?_
              refine S_mv rfl ?_
              refine S_mv rfl ?_
              first | refine S_neg rfl (by omega) (by omega) ?_ | refine S_un rfl rfl ?_
              first | refine S_ixn T.el49 rfl rfl (by omega) ?_ | refine S_ix1 T.el49 rfl rfl (by omega) (by omega) ?_ | refine S_ix T.el49 rfl rfl (by omega) (by omega) ?_
              refine S_st T.sz3 rfl rfl rfl rfl (by simp (disch := omega) only [hOk2]) ?_
              generalize hh : putH _ _ _ = hk1
              have hO2 : B hk1 h.size (arr cc.length fun j => .int .i64 ((pf cc (v + 1)).getD j 0)) 3 := by rw [← hh]; exact (hOk.putA (pf cc v).length _).cong (arr_ext fun j hj => by rw [hpo, getD_app]; split <;> rfl)
              have hE2 : Ext (fun x => x = h.size) hk hk1 := by rw [← hh]; exact Ext.put _ _ rfl
              clear hh
              refine S_nil (hK30 _ _ (V_keep [8, 9, 12, 13, 14] (by simp only [proj, lk, reduceIte, Nat.reduceEqDiff]; rfl) ?_)); clear hK30
              refine V_reg T.mix (by kernel_rfl) ?_
              refine S_mv rfl ?_
              first | refine S_add rfl rfl (by omega) (by omega) ?_ | refine S_bin rfl rfl rfl ?_
              refine S_as rfl ?_
              refine S_nilk [8, 9, 12, 13, 14] (by simp only [proj, lk, reduceIte, Nat.reduceEqDiff]; rfl) ?_
              refine hK26 _ _ ?_; clear hK26
              refine V_reg T.mix (by kernel_rfl) ?_
              refine S_mv rfl ?_
              first | refine S_add rfl rfl (by omega) (by omega) ?_ | refine S_bin rfl rfl rfl ?_
              refine S_as rfl ?_
              refine S_nilk [8, 9, 12, 13, 14] (by simp only [proj, lk, reduceIte, Nat.reduceEqDiff]; rfl) ?_
              exact hK23 _ _ ⟨_, by omega, v + 1, (pf cc v).length + 1, hk1, by rw [hpo]; simp, by omega, by omega, hO2, hEk.step hE2 (fun b hb e => by omega), rfl, rfl, rfl⟩
            · skip
              have hno : pf cc (v + 1) = pf cc v := pf_none (fun e => by
                obtain ⟨j, hj, q⟩ := harr.2.2.1 _ e
                have h9 := bit_mod.2 ((hpb v).2 ⟨j, hj, by simp only [] at q; omega, by omega⟩)
                exact c180 (by omega)) (fun e => by
                obtain ⟨j, hj, q⟩ := harr.2.2.1 _ e
                have h9 := bit_mod.2 ((hnb v).2 ⟨j, hj, by simp only [] at q; omega, by omega⟩)
                exact c183 (by omega))
              refine V_skipk [8, 9, 12, 13, 14] (by simp only [proj, lk, reduceIte, Nat.reduceEqDiff]; rfl) ?_
              refine hK26 _ _ ?_; clear hK26
              refine V_reg T.mix (by kernel_rfl) ?_
              refine S_mv rfl ?_
              first | refine S_add rfl rfl (by omega) (by omega) ?_ | refine S_bin rfl rfl rfl ?_
              refine S_as rfl ?_
              refine S_nilk [8, 9, 12, 13, 14] (by simp only [proj, lk, reduceIte, Nat.reduceEqDiff]; rfl) ?_
              exact hK23 _ _ ⟨_, by omega, v + 1, (pf cc v).length, hk, by rw [hno], by omega, by omega, by rw [hno]; exact hOk, hEk, rfl, rfl, rfl⟩
        · skip
          refine V_exitk [12] rfl (by simp only [proj, lk, reduceIte, Nat.reduceEqDiff]; rfl) ?_
          refine hK21 _ _ ?_; clear hK21
          refine V_sr T.mix (by kernel_rfl) (fun K31 hK31 => ?_)
          refine S_mv rfl ?_
          refine S_as rfl ?_
          refine S_as rfl ?_
          refine S_nil (hK31 _ _ (V_keep [4, 5] (by simp only [proj, lk, reduceIte, Nat.reduceEqDiff]; rfl) ?_)); clear hK31
          refine V_ret ?_
          refine hR _ _ (ret2 rfl rfl rfl ?_)
          have hv13 : v = 13 := by omega
          rw [hv13, pf_all hnr.1] at hOk
          exact ⟨some ⟨h.size, 0, none⟩, by rw [hcF, hcE]; rfl, by rw [hcF]; exact IL.new hOk, fun e => by rw [hcF] at e; omega, fun b hb => by simp [blkA] at hb; omega, hEk⟩
set_option maxHeartbeats 1600000 in
theorem wids_spec (h : Heap) (C X : Nat) (W : WC) (cl : Nat → Option (List Int)) (s : TS) (p : Nat) (w : WX h C X W cl s p) :
    FC Tryz.prog 74 (#[.pointer (some ⟨C, 0, none⟩)] : Array Value) h fun rv h' => ∃ a', rv = .slice a' (idsF cl 52).length (idsF cl 52).length ∧ IL h' a' (idsF cl 52).length (idsF cl 52) ∧ ((idsF cl 52).length = 0 → a' = none) ∧ (∀ b, blkA a' = some b → h.size ≤ b) ∧ Ext (fun _ => False) h h' := by
  have hB := w.b
  have hE := Ext.refl (fun x => x = C) h
  have hlt := w.i.lt
  refine FC_of [(0, .pointer (some ⟨C, 0, none⟩))] Tryz.func74 rfl Tryz.ntmps74 (by simp) rfl (fun R hR => ?_)
  refine V_sr T.mix (by kernel_rfl) (fun K1 hK1 => ?_)
  refine S_as rfl ?_
  refine S_nil (hK1 _ _ (V_keep [0] (by simp only [proj, lk, reduceIte, Nat.reduceEqDiff]; rfl) ?_)); clear hK1
  refine V_sr T.mix (by kernel_rfl) (fun K2 hK2 => ?_)
  refine S_as rfl ?_
  refine S_nil (hK2 _ _ (V_keep [0, 3] (by simp only [proj, lk, reduceIte, Nat.reduceEqDiff]; rfl) ?_)); clear hK2
  refine V_seq (fun K3 hK3 => ?_)
  refine V_sr T.mix (by kernel_rfl) (fun K4 hK4 => ?_)
  refine S_as rfl ?_
  refine S_nil (hK4 _ _ (V_keep [0, 3, 4] (by simp only [proj, lk, reduceIte, Nat.reduceEqDiff]; rfl) ?_)); clear hK4
  refine V_block ?_
  refine V_loop (fun m l h' => ∃ (i : Nat), (i ≤ 52) ∧ m = 52 - i ∧ l = [(0, .pointer (some ⟨C, 0, none⟩)), (3, .int .i64 ((idsF cl i).length : Int)), (4, .int .i64 (i : Int))] ∧ h = h') _ ⟨0, by omega, rfl, rfl, rfl⟩ ?_
  rintro m l h' ⟨i, hi, rfl, rfl, rfl⟩ K5 hK5
  have hil := idsF_len cl i
  refine V_seq (fun K6 hK6 => ?_)
  refine V_sr T.mix (by kernel_rfl) (fun K7 hK7 => ?_)
  refine S_mv rfl ?_
  refine S_bin rfl rfl rfl ?_
  refine S_nil (hK7 _ _ (V_keep [0, 3, 4, 9] (by simp only [proj, lk, reduceIte, Nat.reduceEqDiff]; rfl) ?_)); clear hK7
  refine V_condp rfl (fun c194 => ?_) (fun c194 => ?_)
  · skip
    refine V_skipk [0, 3, 4] (by simp only [proj, lk, reduceIte, Nat.reduceEqDiff]; rfl) ?_
    refine hK6 _ _ ?_; clear hK6
    refine V_seq (fun K8 hK8 => ?_)
    refine V_block ?_
    refine V_sr T.mix (by kernel_rfl) (fun K9 hK9 => ?_)
    refine S_mv rfl ?_
    refine S_nc rfl ?_
    first | refine S_fa0 T.f78_3 rfl ?_ | refine S_fa T.f78_3 rfl ?_
    refine S_ldK T.ag75 rfl (fun K' hK' => ?_)
    simp (disch := omega) only [wlT hB, wlLit hB, wlSize hB, wlUsed hB, wlFresh hB, wlWeak hB, wlList hB, wlVis hB, oP_some, Nat.add_zero]
    refine hK' _ ?_; clear hK' K'
    refine S_mv rfl ?_
    refine S_call T.hb46 rfl ?_
    refine FC.mono (has_spec h (W.used) (i) (hlt.1) (by omega)) ?_
    rintro v' h' ⟨g, rfl, hg, rfl⟩
    refine S_nil (hK9 _ _ (V_keep [0, 3, 4, 17] (by simp only [proj, lk, reduceIte, Nat.reduceEqDiff]; rfl) ?_)); clear hK9
    refine V_condb rfl (fun c195 => ?_) (fun c195 => ?_)
    · skip
      have his : (cl i).isSome = true := by rw [← w.i.u (by omega), ← hg]; simpa using c195
      refine V_reg T.mix (by kernel_rfl) ?_
      refine S_mv rfl ?_
      first | refine S_add rfl rfl (by omega) (by omega) ?_ | refine S_bin rfl rfl rfl ?_
      refine S_as rfl ?_
      refine S_nilk [0, 3, 4] (by simp only [proj, lk, reduceIte, Nat.reduceEqDiff]; rfl) ?_
      refine hK8 _ _ ?_; clear hK8
      refine V_reg T.mix (by kernel_rfl) ?_
      refine S_mv rfl ?_
      first | refine S_add rfl rfl (by omega) (by omega) ?_ | refine S_bin rfl rfl rfl ?_
      refine S_as rfl ?_
      refine S_nilk [0, 3, 4] (by simp only [proj, lk, reduceIte, Nat.reduceEqDiff]; rfl) ?_
      exact hK5 _ _ ⟨_, by omega, i + 1, by omega, rfl, by rw [idsF_succ, if_pos his]; simp, rfl⟩
    · skip
      have his : ¬ (cl i).isSome = true := by rw [← w.i.u (by omega), ← hg]; simpa using c195
      refine V_skipk [0, 3, 4] (by simp only [proj, lk, reduceIte, Nat.reduceEqDiff]; rfl) ?_
      refine hK8 _ _ ?_; clear hK8
      refine V_reg T.mix (by kernel_rfl) ?_
      refine S_mv rfl ?_
      first | refine S_add rfl rfl (by omega) (by omega) ?_ | refine S_bin rfl rfl rfl ?_
      refine S_as rfl ?_
      refine S_nilk [0, 3, 4] (by simp only [proj, lk, reduceIte, Nat.reduceEqDiff]; rfl) ?_
      exact hK5 _ _ ⟨_, by omega, i + 1, by omega, rfl, by rw [idsF_succ, if_neg his]; simp, rfl⟩
  · skip
    have hi52 : i = 52 := by omega
    subst hi52
    refine V_exitk [0, 3] rfl (by simp only [proj, lk, reduceIte, Nat.reduceEqDiff]; rfl) ?_
    refine hK3 _ _ ?_; clear hK3
    refine V_seq (fun K10 hK10 => ?_)
    refine V_sr T.mix (by kernel_rfl) (fun K11 hK11 => ?_)
    refine S_mv rfl ?_
    refine S_bin rfl rfl rfl ?_
    refine S_nil (hK11 _ _ (V_keep [0, 3, 21] (by simp only [proj, lk, reduceIte, Nat.reduceEqDiff]; rfl) ?_)); clear hK11
    refine V_condp rfl (fun c199 => ?_) (fun c199 => ?_)
    · skip
      refine V_sr T.mix (by kernel_rfl) (fun K12 hK12 => ?_)
      refine S_as rfl ?_
      refine S_nil (hK12 _ _ (V_keep [2] (by simp only [proj, lk, reduceIte, Nat.reduceEqDiff]; rfl) ?_)); clear hK12
      refine V_ret ?_
      refine hR _ _ (ret1 rfl rfl ?_)
      have hce : idsF cl 52 = [] := List.eq_nil_of_length_eq_zero (by omega)
      exact ⟨none, by rw [hce]; rfl, by rw [hce]; exact IL.nil _, fun _ => rfl, by simp [blkA], Ext.refl _ _⟩
    · skip
      refine V_skipk [0, 3] (by simp only [proj, lk, reduceIte, Nat.reduceEqDiff]; rfl) ?_
      refine hK10 _ _ ?_; clear hK10
      refine V_sr T.mix (by kernel_rfl) (fun K13 hK13 => ?_)
      refine S_mv rfl ?_
      refine S_mk T.ei49 rfl rfl (by omega) (by omega) (by omega) (by omega) ?_
      simp only [Int.toNat_natCast, Nat.mul_one, mkZ_one]
      generalize hh : Array.push h _ = h1
      have hO1 : B h1 h.size (arr (idsF cl 52).length fun _ => .int .i64 0) 3 := by rw [← hh]; exact B.new _ _ _
      have hE1 : Ext (fun _ => False) h h1 := by rw [← hh]; exact Ext.push _ _ _
      clear hh
      refine S_as rfl ?_
      refine S_nil (hK13 _ _ (V_keep [0, 5] (by simp only [proj, lk, reduceIte, Nat.reduceEqDiff]; rfl) ?_)); clear hK13
      refine V_sr T.mix (by kernel_rfl) (fun K14 hK14 => ?_)
      refine S_as rfl ?_
      refine S_nil (hK14 _ _ (V_keep [0, 5, 6] (by simp only [proj, lk, reduceIte, Nat.reduceEqDiff]; rfl) ?_)); clear hK14
      refine V_seq (fun K15 hK15 => ?_)
      refine V_sr T.mix (by kernel_rfl) (fun K16 hK16 => ?_)
      refine S_as rfl ?_
      refine S_nil (hK16 _ _ (V_keep [0, 5, 6, 7] (by simp only [proj, lk, reduceIte, Nat.reduceEqDiff]; rfl) ?_)); clear hK16
      refine V_block ?_
      refine V_loop (fun m l h' => ∃ (v : Nat) (k : Nat) (hk : Heap), (k = (idsF cl v).length) ∧ (v ≤ 52) ∧ (B hk h.size (arr (idsF cl 52).length fun j => .int .i64 ((idsF cl v).getD j 0)) 3) ∧ (Ext (fun _ => False) h hk) ∧ m = 52 - v ∧ l = [(0, .pointer (some ⟨C, 0, none⟩)), (5, .slice (some ⟨h.size, 0, none⟩) (idsF cl 52).length (idsF cl 52).length), (6, .int .i64 (k : Int)), (7, .int .i64 (v : Int))] ∧ hk = h') _ ⟨0, 0, h1, by simp [idsF], by omega, hO1.cong (arr_ext fun j hj => by simp [idsF]), hE1, rfl, rfl, rfl⟩ ?_
      rintro m l h' ⟨v, k, hk, hkl, hv, hOk, hEk, rfl, rfl, rfl⟩ K17 hK17
      subst hkl
      clear hB
      have hB := w.b.ext hEk (fun f => f)
      have hvl := idsF_len cl v
      have hOk2 : ∀ j, j < (idsF cl 52).length → okPut hk ⟨h.size, j, none⟩ = true := fun j hj => hOk.okA hj
      refine V_seq (fun K18 hK18 => ?_)
      refine V_sr T.mix (by kernel_rfl) (fun K19 hK19 => ?_)
      refine S_mv rfl ?_
      refine S_bin rfl rfl rfl ?_
      refine S_nil (hK19 _ _ (V_keep [0, 5, 6, 7, 25] (by simp only [proj, lk, reduceIte, Nat.reduceEqDiff]; rfl) ?_)); clear hK19
      refine V_condp rfl (fun c204 => ?_) (fun c204 => ?_)
      · skip
        refine V_skipk [0, 5, 6, 7] (by simp only [proj, lk, reduceIte, Nat.reduceEqDiff]; rfl) ?_
        refine hK18 _ _ ?_; clear hK18
        refine V_seq (fun K20 hK20 => ?_)
        refine V_block ?_
        refine V_sr T.mix (by kernel_rfl) (fun K21 hK21 => ?_)
        refine S_mv rfl ?_
        refine S_nc rfl ?_
        first | refine S_fa0 T.f78_3 rfl ?_ | refine S_fa T.f78_3 rfl ?_
        refine S_ldK T.ag75 rfl (fun K' hK' => ?_)
        simp (disch := omega) only [wlT hB, wlLit hB, wlSize hB, wlUsed hB, wlFresh hB, wlWeak hB, wlList hB, wlVis hB, oP_some, Nat.add_zero]
        refine hK' _ ?_; clear hK' K'
        refine S_mv rfl ?_
        refine S_call T.hb46 rfl ?_
        refine FC.mono (has_spec hk (W.used) (v) (hlt.1) (by omega)) ?_
        rintro v' h' ⟨g, rfl, hg, rfl⟩
        refine S_nil (hK21 _ _ (V_keep [0, 5, 6, 7, 33] (by simp only [proj, lk, reduceIte, Nat.reduceEqDiff]; rfl) ?_)); clear hK21
        refine V_condb rfl (fun c205 => ?_) (fun c205 => ?_)
        · skip
          have his : (cl v).isSome = true := by rw [← w.i.u (by omega), ← hg]; simpa using c205
          have hpo : idsF cl (v + 1) = idsF cl v ++ [(v : Int)] := by rw [idsF_succ, if_pos his]
          have hpl : (idsF cl v).length < (idsF cl 52).length := by have h9 := idsF_mono (cl := cl) (show v + 1 ≤ 52 by omega); rw [hpo, List.length_append] at h9; simp at h9; omega
          refine V_sr T.mix (by kernel_rfl) (fun K22 hK22 => ?_)
          refine S_mv rfl ?_
          refine S_mv rfl ?_
          refine S_mv rfl ?_
          first | refine S_ixn T.el49 rfl rfl (by omega) ?_ | refine S_ix1 T.el49 rfl rfl (by omega) (by omega) ?_ | refine S_ix T.el49 rfl rfl (by omega) (by omega) ?_
          refine S_st T.sz3 rfl rfl rfl rfl (by simp (disch := omega) only [hOk2]) ?_
          generalize hh : putH _ _ _ = hk1
          have hO2 : B hk1 h.size (arr (idsF cl 52).length fun j => .int .i64 ((idsF cl (v + 1)).getD j 0)) 3 := by rw [← hh]; exact (hOk.putA (idsF cl v).length _).cong (arr_ext fun j hj => by rw [hpo, getD_app]; split <;> rfl)
          have hE2 : Ext (fun x => x = h.size) hk hk1 := by rw [← hh]; exact Ext.put _ _ rfl
          clear hh
          refine S_nil (hK22 _ _ (V_keep [0, 5, 6, 7] (by simp only [proj, lk, reduceIte, Nat.reduceEqDiff]; rfl) ?_)); clear hK22
          refine V_reg T.mix (by kernel_rfl) ?_
          refine S_mv rfl ?_
          first | refine S_add rfl rfl (by omega) (by omega) ?_ | refine S_bin rfl rfl rfl ?_
          refine S_as rfl ?_
          refine S_nilk [0, 5, 6, 7] (by simp only [proj, lk, reduceIte, Nat.reduceEqDiff]; rfl) ?_
          refine hK20 _ _ ?_; clear hK20
          refine V_reg T.mix (by kernel_rfl) ?_
          refine S_mv rfl ?_
          first | refine S_add rfl rfl (by omega) (by omega) ?_ | refine S_bin rfl rfl rfl ?_
          refine S_as rfl ?_
          refine S_nilk [0, 5, 6, 7] (by simp only [proj, lk, reduceIte, Nat.reduceEqDiff]; rfl) ?_
          exact hK17 _ _ ⟨_, by omega, v + 1, (idsF cl v).length + 1, hk1, by rw [hpo]; simp, by omega, hO2, hEk.step hE2 (fun b hb e => by omega), rfl, rfl, rfl⟩
        · skip
          have his : ¬ (cl v).isSome = true := by rw [← w.i.u (by omega), ← hg]; simpa using c205
          refine V_skipk [0, 5, 6, 7] (by simp only [proj, lk, reduceIte, Nat.reduceEqDiff]; rfl) ?_
          refine hK20 _ _ ?_; clear hK20
          refine V_reg T.mix (by kernel_rfl) ?_
          refine S_mv rfl ?_
          first | refine S_add rfl rfl (by omega) (by omega) ?_ | refine S_bin rfl rfl rfl ?_
          refine S_as rfl ?_
          refine S_nilk [0, 5, 6, 7] (by simp only [proj, lk, reduceIte, Nat.reduceEqDiff]; rfl) ?_
          exact hK17 _ _ ⟨_, by omega, v + 1, (idsF cl v).length, hk, by rw [idsF_succ cl v, if_neg his, List.append_nil], by omega, by rw [idsF_succ cl v, if_neg his, List.append_nil]; exact hOk, hEk, rfl, rfl, rfl⟩
      · skip
        refine V_exitk [5] rfl (by simp only [proj, lk, reduceIte, Nat.reduceEqDiff]; rfl) ?_
        refine hK15 _ _ ?_; clear hK15
        refine V_sr T.mix (by kernel_rfl) (fun K23 hK23 => ?_)
        refine S_mv rfl ?_
        refine S_as rfl ?_
        refine S_nil (hK23 _ _ (V_keep [2] (by simp only [proj, lk, reduceIte, Nat.reduceEqDiff]; rfl) ?_)); clear hK23
        refine V_ret ?_
        refine hR _ _ (ret1 rfl rfl ?_)
        have hv52 : v = 52 := by omega
        rw [hv52] at hOk
        exact ⟨some ⟨h.size, 0, none⟩, rfl, IL.new hOk, fun e => by omega, fun b hb => by simp [blkA] at hb; omega, hEk⟩
end Go.Proofs.Qxb6500401aGreat
