import Derived.Test.Qxb6500398aRa
set_option linter.unusedVariables false
set_option linter.unusedSimpArgs false
namespace Go.Proofs.Qxb6500398a
open Go.Eng Go.Cnf Go.Chk

theorem t16 {n : Nat} (h : n < 4096) : n < top .u16 := Nat.lt_of_lt_of_le h (by decide)
theorem b16 {n : Nat} (h : n < 4096) : n < 2 ^ IntKind.u16.bits := Nat.lt_of_lt_of_le h (by decide)
theorem t64 {s : Nat} (h : s < 64) : 2 ^ s < top .u64 := Nat.pow_lt_pow_right (n := 64) (by omega) h
theorem two64 {s : Nat} (h : s < 64) : 2 ^ s < 18446744073709551616 := Nat.pow_lt_pow_right (n := 64) (by omega) h
theorem two12 {s : Nat} (h : s < 12) : 2 ^ s < 4096 := Nat.pow_lt_pow_right (n := 12) (by omega) h
theorem or12 {a b : Nat} (ha : a < 4096) (hb : b < 4096) : a ||| b < 4096 := Nat.or_lt_two_pow (n := 12) ha hb
theorem and12 {a b : Nat} (ha : a < 4096) : a &&& b < 4096 := Nat.lt_of_le_of_lt Nat.and_le_left ha
/-- what a sweep has done so far -/
def Chg (sl : Nat → Option (List Int)) (yes no y o s : Nat) : Prop := (y = yes ∧ o = no ∧ ∀ j, j < s → ∀ c, sl j = some c → Done (tl yes no) c) ∨ vcnt yes no < vcnt y o
theorem Chg.skip {sl : Nat → Option (List Int)} {yes no y o s : Nat} (h : Chg sl yes no y o s) (hd : ∀ c, sl s = some c → Done (tl y o) c) : Chg sl yes no y o (s + 1) := by
  rcases h with ⟨a, b, d⟩ | h
  · refine .inl ⟨a, b, fun j hj c hc => ?_⟩
    by_cases e : j = s
    · subst e; rw [← a, ← b]; exact hd c hc
    · exact d j (by omega) c hc
  · exact .inr h
theorem Chg.up {sl : Nat → Option (List Int)} {yes no y o s y' o' : Nat} (h : Chg sl yes no y o s) (hv : vcnt y o < vcnt y' o') : Chg sl yes no y' o' (s + 1) := by
  rcases h with ⟨a, b, d⟩ | h
  · subst a; subst b; exact .inr hv
  · exact .inr (by omega)
theorem tl_mono {y o y' o' : Nat} (hy : ∀ i, y.testBit i = true → y'.testBit i = true) (ho : ∀ i, o.testBit i = true → o'.testBit i = true) {l : Int} (h : tl y o l) : tl y' o' l := by
  refine ⟨h.1, ?_⟩
  have := h.2
  split
  · rename_i hp; rw [if_pos hp] at this; exact hy _ this
  · rename_i hp; rw [if_neg hp] at this; exact ho _ this
theorem tl_or_l {y o a : Nat} {l : Int} (h : tl y o l) : tl (y ||| a) o l := tl_mono (fun i hi => by rw [Nat.testBit_or, hi]; rfl) (fun _ h => h) h
theorem tl_or_r {y o a : Nat} {l : Int} (h : tl y o l) : tl y (o ||| a) l := tl_mono (fun _ h => h) (fun i hi => by rw [Nat.testBit_or, hi]; rfl) h
set_option maxHeartbeats 400000 in
theorem slotbit_spec (h : Heap) (s : Nat) (hs : s < 64) :
    FC Try.prog 16 (#[.int .i64 (s : Int)] : Array Value) h fun rv h' => rv = .int .u64 ((2 ^ s : Nat) : Int) ∧ h = h' := by
  refine FC_of [(0, .int .i64 (s : Int))] Try.func16 rfl Try.ntmps16 (by simp) rfl (fun R hR => ?_)
  refine V_sr T.mix (by kernel_rfl) (fun K1 hK1 => ?_)
  refine S_as rfl ?_
  refine S_nil (hK1 _ _ (V_keep [0] (by simp only [proj, lk, reduceIte, Nat.reduceEqDiff]; rfl) ?_)); clear hK1
  refine V_sr T.mix (by kernel_rfl) (fun K2 hK2 => ?_)
  refine S_mv rfl ?_
  first | refine S_andm 63 6 64 rfl rfl rfl (by decide) (by decide) (by omega) (by omega) ?_ | refine S_bin rfl rfl rfl ?_
  first | refine S_cvn T.us3 T.in66 rfl rfl (by first | omega | (simp only [IntKind.bits]; omega)) ?_ | refine S_cvu T.us3 T.in66 rfl (by omega) (by omega) ?_ | refine S_cv T.us3 T.in66 rfl ?_
  refine S_nshl 1 s (2 ^ s) rfl rfl rfl (by omega) (Nat.one_mul _) (show s ≤ 64 by omega) (t64 hs) ?_
  refine S_as rfl ?_
  refine S_nil (hK2 _ _ (V_keep [2] (by simp only [proj, lk, reduceIte, Nat.reduceEqDiff]; rfl) ?_)); clear hK2
  refine V_ret ?_
  refine hR _ _ (ret1 rfl rfl ?_)
  exact ⟨rfl, rfl⟩
set_option maxHeartbeats 400000 in
theorem bitof_spec (h : Heap) (v : Nat) (hv : 1 ≤ v) (hv2 : v ≤ 12) :
    FC Try.prog 62 (#[.int .i64 (v : Int)] : Array Value) h fun rv h' => rv = .int .u16 ((2 ^ (v - 1) : Nat) : Int) ∧ h = h' := by
  refine FC_of [(0, .int .i64 (v : Int))] Try.func62 rfl Try.ntmps62 (by simp) rfl (fun R hR => ?_)
  refine V_sr T.mix (by kernel_rfl) (fun K1 hK1 => ?_)
  refine S_as rfl ?_
  refine S_nil (hK1 _ _ (V_keep [0] (by simp only [proj, lk, reduceIte, Nat.reduceEqDiff]; rfl) ?_)); clear hK1
  refine V_sr T.mix (by kernel_rfl) (fun K2 hK2 => ?_)
  refine S_mv rfl ?_
  first | refine S_sub rfl rfl (by omega) (by omega) ?_ | refine S_bin rfl rfl rfl ?_
  first | refine S_andm 15 4 16 rfl rfl rfl (by decide) (by decide) (by omega) (by omega) ?_ | refine S_bin rfl rfl rfl ?_
  first | refine S_cvn T.us3 T.in66 rfl rfl (by first | omega | (simp only [IntKind.bits]; omega)) ?_ | refine S_cvu T.us3 T.in66 rfl (by omega) (by omega) ?_ | refine S_cv T.us3 T.in66 rfl ?_
  refine S_nshl 1 (v - 1) (2 ^ (v - 1)) rfl rfl rfl (by omega) (Nat.one_mul _) (show v - 1 ≤ 16 by omega) (t16 (two12 (by omega))) ?_
  refine S_as rfl ?_
  refine S_nil (hK2 _ _ (V_keep [2] (by simp only [proj, lk, reduceIte, Nat.reduceEqDiff]; rfl) ?_)); clear hK2
  refine V_ret ?_
  refine hR _ _ (ret1 rfl rfl ?_)
  exact ⟨rfl, rfl⟩
set_option maxHeartbeats 400000 in
theorem one_spec (h : Heap) (x : Nat) (hx : x < 4096) :
    FC Try.prog 80 (#[.int .u16 (x : Int)] : Array Value) h fun rv h' => ∃ g : Bool, rv = .bool g ∧ (g = true ↔ Chk.one x) ∧ h = h' := by
  refine FC_of [(0, .int .u16 (x : Int))] Try.func80 rfl Try.ntmps80 (by simp) rfl (fun R hR => ?_)
  refine V_sr T.mix (by kernel_rfl) (fun K1 hK1 => ?_)
  refine S_as rfl ?_
  refine S_nil (hK1 _ _ (V_keep [0] (by simp only [proj, lk, reduceIte, Nat.reduceEqDiff]; rfl) ?_)); clear hK1
  refine V_sr T.mix (by kernel_rfl) (fun K2 hK2 => ?_)
  refine S_mv rfl ?_
  refine S_bin rfl rfl rfl ?_
  refine S_mv rfl ?_
  refine S_dec (fun g8 => ?_) (fun g8 => ?_)
  · skip
    refine S_gt rfl ?_
    refine S_mv rfl ?_
    refine S_gt rfl ?_
    refine S_mv rfl ?_
    refine S_gt rfl ?_
    refine S_nsub x 1 (x - 1) rfl rfl rfl rfl (by omega) (t16 hx) ?_
    refine S_gt rfl ?_
    refine S_nand x (x - 1) _ rfl rfl rfl rfl rfl (t16 hx) (t16 (by omega)) ?_
    refine S_gt rfl ?_
    refine S_bin rfl rfl rfl ?_
    refine S_pt rfl rfl ?_
    refine S_as rfl ?_
    refine S_nil (hK2 _ _ (V_keep [2] (by simp only [proj, lk, reduceIte, Nat.reduceEqDiff]; rfl) ?_)); clear hK2
    refine V_ret ?_
    refine hR _ _ (ret1 rfl rfl ?_)
    exact ⟨_, rfl, by unfold Chk.one; simp; omega, rfl⟩
  · skip
    refine S_gf rfl ?_
    refine S_gf rfl ?_
    refine S_gf rfl ?_
    refine S_gf rfl ?_
    refine S_gf rfl ?_
    refine S_pf rfl rfl ?_
    refine S_as rfl ?_
    refine S_nil (hK2 _ _ (V_keep [2] (by simp only [proj, lk, reduceIte, Nat.reduceEqDiff]; rfl) ?_)); clear hK2
    refine V_ret ?_
    refine hR _ _ (ret1 rfl rfl ?_)
    exact ⟨_, rfl, by unfold Chk.one; simp; omega, rfl⟩
set_option maxHeartbeats 1600000 in
theorem sweep_spec (h : Heap) (C X : Nat) (sl : Nat → Option (List Int)) (ks : KS h C X sl) (on : Int → Prop) (yes no : Nat) (hy0 : yes < 4096) (ho0 : no < 4096) (hd0 : yes &&& no = 0) (hsnd0 : Snd (rowsS sl 64) on (tl yes no)) :
    FC Try.prog 77 (#[.pointer (some ⟨C, 0, none⟩), .int .u16 (yes : Int), .int .u16 (no : Int)] : Array Value) h fun rv h' => ∃ (y o : Nat) (hit : Bool), rv = .tuple #[.int .u16 (y : Int), .int .u16 (o : Int), .bool hit] ∧ h = h' ∧ (hit = true → ¬ Fix (rowsS sl 64) on) ∧ (hit = false → y < 4096 ∧ o < 4096 ∧ y &&& o = 0 ∧ Snd (rowsS sl 64) on (tl y o) ∧ Chg sl yes no y o 64 ∧ ∀ t, tl yes no t → tl y o t) := by
  obtain ⟨Q, hB, hS⟩ := ks
  have hlt := hS.lt
  refine FC_of [(0, .pointer (some ⟨C, 0, none⟩)), (1, .int .u16 (yes : Int)), (2, .int .u16 (no : Int))] Try.func77 rfl Try.ntmps77 (by simp) rfl (fun R hR => ?_)
  refine V_sr T.mix (by kernel_rfl) (fun K1 hK1 => ?_)
  refine S_as rfl ?_
  refine S_as rfl ?_
  refine S_as rfl ?_
  refine S_nil (hK1 _ _ (V_keep [0, 1, 2] (by simp only [proj, lk, reduceIte, Nat.reduceEqDiff]; rfl) ?_)); clear hK1
  refine V_seq (fun K2 hK2 => ?_)
  refine V_sr T.mix (by kernel_rfl) (fun K3 hK3 => ?_)
  refine S_as rfl ?_
  refine S_nil (hK3 _ _ (V_keep [0, 1, 2, 9] (by simp only [proj, lk, reduceIte, Nat.reduceEqDiff]; rfl) ?_)); clear hK3
  refine V_block ?_
  refine V_loop (fun m l h' => ∃ (s : Nat) (y : Nat) (o : Nat), (s ≤ 64) ∧ (y < 4096) ∧ (o < 4096) ∧ (y &&& o = 0) ∧ (Snd (rowsS sl 64) on (tl y o)) ∧ (Chg sl yes no y o s) ∧ (∀ t, tl yes no t → tl y o t) ∧ m = 64 - s ∧ l = [(0, .pointer (some ⟨C, 0, none⟩)), (1, .int .u16 (y : Int)), (2, .int .u16 (o : Int)), (9, .int .i64 (s : Int))] ∧ h = h') _ ⟨0, yes, no, by omega, hy0, ho0, hd0, hsnd0, .inl ⟨rfl, rfl, fun j hj => by omega⟩, fun _ h => h, rfl, rfl, rfl⟩ ?_
  rintro m l h' ⟨s, y, o, hs, hy, ho, hd, hsnd, hch, hmo, rfl, rfl, rfl⟩ K4 hK4
  refine V_seq (fun K5 hK5 => ?_)
  refine V_sr T.mix (by kernel_rfl) (fun K6 hK6 => ?_)
  refine S_mv rfl ?_
  refine S_bin rfl rfl rfl ?_
  refine S_nil (hK6 _ _ (V_keep [0, 1, 2, 9, 16] (by simp only [proj, lk, reduceIte, Nat.reduceEqDiff]; rfl) ?_)); clear hK6
  refine V_condp rfl (fun c13 => ?_) (fun c13 => ?_)
  · skip
    have h2s := two64 (s := s) (by omega)
    refine V_skipk [0, 1, 2, 9] (by simp only [proj, lk, reduceIte, Nat.reduceEqDiff]; rfl) ?_
    refine hK5 _ _ ?_; clear hK5
    refine V_seq (fun K7 hK7 => ?_)
    refine V_block ?_
    refine V_seq (fun K8 hK8 => ?_)
    refine V_srM #[0, 1, 2, 3, 4, 5, 6, 7] [0, 1, 2, 3, 4] 5 [6, 7] T.mix (by kernel_rfl) rfl ⟨rfl, rfl⟩ (fun K9 hK9 => ?_)
    refine S_mv rfl ?_
    refine S_nc rfl ?_
    first | refine S_fa0 T.f47_3 rfl ?_ | refine S_fa T.f47_3 rfl ?_
    refine S_ldK T.ag45 rfl (fun K' hK' => ?_)
    simp (disch := omega) only [klP hB, klUsed hB, klEmp hB, klPos hB, klNeg hB, oP_some, Nat.add_zero]
    refine hK' _ ?_; clear hK' K'
    refine S_mv rfl ?_
    refine S_nil ?_
    refine SM_call T.hb16 rfl ?_
    refine FC.mono (slotbit_spec h s (by omega)) ?_
    rintro v' h' ⟨rfl, rfl⟩
    first | refine ⟨Grows.refl _, ?_⟩ | refine ⟨Grows.of_ext (by assumption), ?_⟩
    first | refine S_uand rfl rfl rfl (by first | omega | (simp only [IntKind.bits]; omega)) (by first | omega | (simp only [IntKind.bits]; omega)) ?_ | refine S_bin rfl rfl rfl ?_
    refine S_bin rfl rfl rfl ?_
    refine S_nil (hK9 _ _ (V_keep [0, 1, 2, 9, 26] (by simp only [proj, lk, reduceIte, Nat.reduceEqDiff]; rfl) ?_)); clear hK9
    refine V_condp rfl (fun c14 => ?_) (fun c14 => ?_)
    · skip
      refine V_exitk [0, 1, 2, 9] rfl (by simp only [proj, lk, reduceIte, Nat.reduceEqDiff]; rfl) ?_
      refine hK7 _ _ ?_; clear hK7
      refine V_reg T.mix (by kernel_rfl) ?_
      refine S_mv rfl ?_
      first | refine S_add rfl rfl (by omega) (by omega) ?_ | refine S_bin rfl rfl rfl ?_
      refine S_as rfl ?_
      refine S_nilk [0, 1, 2, 9] (by simp only [proj, lk, reduceIte, Nat.reduceEqDiff]; rfl) ?_
      exact hK4 _ _ ⟨_, by omega, s + 1, y, o, by omega, hy, ho, hd, hsnd, hch.skip (fun c hc => by rw [(hS.free (by omega)).1 (by omega)] at hc; cases hc), hmo, rfl, rfl, rfl⟩
    · skip
      obtain ⟨c, hsc⟩ : ∃ c, sl s = some c := by
        cases e : sl s with
        | none => exact absurd (by rw [(hS.free (by omega)).2 e]; rfl) c14
        | some c => exact ⟨c, rfl⟩
      have hyc := hS.yes s (by omega) c hsc
      have hcR : c ∈ rowsS sl 64 := mem_rows.2 ⟨s, by omega, hsc⟩
      have hpl := pM_lt hyc.1.1
      have hnl := nM_lt hyc.1.1
      have hyo := or12 hy ho
      refine V_skipk [0, 1, 2, 9] (by simp only [proj, lk, reduceIte, Nat.reduceEqDiff]; rfl) ?_
      refine hK8 _ _ ?_; clear hK8
      refine V_sr T.mix (by kernel_rfl) (fun K10 hK10 => ?_)
      refine S_mv rfl ?_
      refine S_mv rfl ?_
      refine S_nc rfl ?_
      first | refine S_fa0 T.f47_1 rfl ?_ | refine S_fa T.f47_1 rfl ?_
      first | refine S_ixan T.ar44 rfl rfl (by omega) ?_ | refine S_ixa1 T.ar44 rfl rfl (by omega) (by omega) ?_
      refine S_ldK T.ag43 rfl (fun K' hK' => ?_)
      simp (disch := omega) only [klP hB, klUsed hB, klEmp hB, klPos hB, klNeg hB, oP_some, Nat.add_zero]
      refine hK' _ ?_; clear hK' K'
      rw [hyc.2.1]
      refine S_mv rfl ?_
      refine S_mv rfl ?_
      refine S_nc rfl ?_
      first | refine S_fa0 T.f47_2 rfl ?_ | refine S_fa T.f47_2 rfl ?_
      first | refine S_ixan T.ar44 rfl rfl (by omega) ?_ | refine S_ixa1 T.ar44 rfl rfl (by omega) (by omega) ?_
      refine S_ldK T.ag43 rfl (fun K' hK' => ?_)
      simp (disch := omega) only [klP hB, klUsed hB, klEmp hB, klPos hB, klNeg hB, oP_some, Nat.add_zero]
      refine hK' _ ?_; clear hK' K'
      rw [hyc.2.2.1]
      refine S_as rfl ?_
      refine S_as rfl ?_
      refine S_nil (hK10 _ _ (V_keep [0, 1, 2, 9, 10, 11] (by simp only [proj, lk, reduceIte, Nat.reduceEqDiff]; rfl) ?_)); clear hK10
      refine V_seq (fun K11 hK11 => ?_)
      refine V_sr T.mix (by kernel_rfl) (fun K12 hK12 => ?_)
      refine S_mv rfl ?_
      refine S_mv rfl ?_
      refine S_nand (pM c) y _ rfl rfl rfl rfl rfl (t16 hpl) (t16 hy) ?_
      refine S_mv rfl ?_
      refine S_mv rfl ?_
      refine S_nand (nM c) o _ rfl rfl rfl rfl rfl (t16 hnl) (t16 ho) ?_
      refine S_nor (pM c &&& y) (nM c &&& o) _ rfl rfl rfl rfl rfl (t16 (and12 hpl)) (t16 (and12 hnl)) ?_
      refine S_bin rfl rfl rfl ?_
      refine S_nil (hK12 _ _ (V_keep [0, 1, 2, 9, 10, 11, 46] (by simp only [proj, lk, reduceIte, Nat.reduceEqDiff]; rfl) ?_)); clear hK12
      refine V_condp rfl (fun c18 => ?_) (fun c18 => ?_)
      · skip
        refine V_exitk [0, 1, 2, 9] rfl (by simp only [proj, lk, reduceIte, Nat.reduceEqDiff]; rfl) ?_
        refine hK7 _ _ ?_; clear hK7
        refine V_reg T.mix (by kernel_rfl) ?_
        refine S_mv rfl ?_
        first | refine S_add rfl rfl (by omega) (by omega) ?_ | refine S_bin rfl rfl rfl ?_
        refine S_as rfl ?_
        refine S_nilk [0, 1, 2, 9] (by simp only [proj, lk, reduceIte, Nat.reduceEqDiff]; rfl) ?_
        exact hK4 _ _ ⟨_, by omega, s + 1, y, o, by omega, hy, ho, hd, hsnd, hch.skip (fun d hd2 => by rw [hsc] at hd2; cases hd2; exact .inl (row_true hyc.1 (by omega))), hmo, rfl, rfl, rfl⟩
      · skip
        have hnt : (pM c &&& y) ||| (nM c &&& o) = 0 := by omega
        refine V_skipk [0, 1, 2, 9, 10, 11] (by simp only [proj, lk, reduceIte, Nat.reduceEqDiff]; rfl) ?_
        refine hK11 _ _ ?_; clear hK11
        refine V_sr T.mix (by kernel_rfl) (fun K13 hK13 => ?_)
        refine S_mv rfl ?_
        refine S_mv rfl ?_
        refine S_nor y o _ rfl rfl rfl rfl rfl (t16 hy) (t16 ho) ?_
        refine S_as rfl ?_
        refine S_nil (hK13 _ _ (V_keep [0, 1, 2, 9, 10, 11, 12] (by simp only [proj, lk, reduceIte, Nat.reduceEqDiff]; rfl) ?_)); clear hK13
        refine V_sr T.mix (by kernel_rfl) (fun K14 hK14 => ?_)
        refine S_mv rfl ?_
        refine S_mv rfl ?_
        refine S_nandn (pM c) (y ||| o) rfl rfl rfl rfl rfl (b16 hpl) (b16 hyo) ?_
        refine S_mv rfl ?_
        refine S_mv rfl ?_
        refine S_nandn (nM c) (y ||| o) rfl rfl rfl rfl rfl (b16 hnl) (b16 hyo) ?_
        refine S_as rfl ?_
        refine S_as rfl ?_
        refine S_nil (hK14 _ _ (V_keep [0, 1, 2, 9, 13, 14] (by simp only [proj, lk, reduceIte, Nat.reduceEqDiff]; rfl) ?_)); clear hK14
        refine V_seq (fun K15 hK15 => ?_)
        refine V_sr T.mix (by kernel_rfl) (fun K16 hK16 => ?_)
        refine S_mv rfl ?_
        refine S_mv rfl ?_
        refine S_nor (wo (pM c) (y ||| o)) (wo (nM c) (y ||| o)) _ rfl rfl rfl rfl rfl (t16 (wo_lt (n := 12) hpl)) (t16 (wo_lt (n := 12) hnl)) ?_
        refine S_bin rfl rfl rfl ?_
        refine S_nil (hK16 _ _ (V_keep [0, 1, 2, 9, 13, 14, 59] (by simp only [proj, lk, reduceIte, Nat.reduceEqDiff]; rfl) ?_)); clear hK16
        refine V_condp rfl (fun c23 => ?_) (fun c23 => ?_)
        · skip
          refine V_sr T.mix (by kernel_rfl) (fun K17 hK17 => ?_)
          refine S_mv rfl ?_
          refine S_mv rfl ?_
          refine S_as rfl ?_
          refine S_as rfl ?_
          refine S_as rfl ?_
          refine S_nil (hK17 _ _ (V_keep [6, 7, 8] (by simp only [proj, lk, reduceIte, Nat.reduceEqDiff]; rfl) ?_)); clear hK17
          refine V_ret ?_
          refine hR _ _ (ret3 rfl rfl rfl rfl ?_)
          exact ⟨y, o, true, rfl, rfl, fun _ => row_hit hyc.1 hsnd hcR hnt (by omega), fun e => (by cases e)⟩
        · skip
          refine V_skipk [0, 1, 2, 9, 13, 14] (by simp only [proj, lk, reduceIte, Nat.reduceEqDiff]; rfl) ?_
          refine hK15 _ _ ?_; clear hK15
          refine V_sr T.mix (by kernel_rfl) (fun K18 hK18 => ?_)
          refine S_mv rfl ?_
          refine S_bin rfl rfl rfl ?_
          refine S_nil (hK18 _ _ (V_keep [0, 1, 2, 9, 13, 14, 63] (by simp only [proj, lk, reduceIte, Nat.reduceEqDiff]; rfl) ?_)); clear hK18
          refine V_condp rfl (fun c26 => ?_) (fun c26 => ?_)
          · skip
            refine V_sr T.mix (by kernel_rfl) (fun K19 hK19 => ?_)
            refine S_mv rfl ?_
            refine S_call T.hb80 rfl ?_
            refine FC.mono (one_spec h (wo (pM c) (y ||| o)) (wo_lt (n := 12) (by omega))) ?_
            rintro v' h' ⟨g, rfl, hg, rfl⟩
            refine S_nil (hK19 _ _ (V_keep [0, 1, 2, 9, 13, 65] (by simp only [proj, lk, reduceIte, Nat.reduceEqDiff]; rfl) ?_)); clear hK19
            refine V_condb rfl (fun c27 => ?_) (fun c27 => ?_)
            · skip
              refine V_reg T.mix (by kernel_rfl) ?_
              refine S_mv rfl ?_
              refine S_mv rfl ?_
              refine S_nor y (wo (pM c) (y ||| o)) _ rfl rfl rfl rfl rfl (t16 hy) (t16 (wo_lt (n := 12) hpl)) ?_
              refine S_as rfl ?_
              refine S_nilk [0, 1, 2, 9] (by simp only [proj, lk, reduceIte, Nat.reduceEqDiff]; rfl) ?_
              refine hK7 _ _ ?_; clear hK7
              refine V_reg T.mix (by kernel_rfl) ?_
              refine S_mv rfl ?_
              first | refine S_add rfl rfl (by omega) (by omega) ?_ | refine S_bin rfl rfl rfl ?_
              refine S_as rfl ?_
              refine S_nilk [0, 1, 2, 9] (by simp only [proj, lk, reduceIte, Nat.reduceEqDiff]; rfl) ?_
              exact hK4 _ _ ⟨_, by omega, s + 1, (y ||| (wo (pM c) (y ||| o))), o, by omega, (row_unit_p hyc.1 hsnd hcR hnt (by omega) (hg.1 c27) hd hy).2.2.1, ho, (row_unit_p hyc.1 hsnd hcR hnt (by omega) (hg.1 c27) hd hy).2.1, (row_unit_p hyc.1 hsnd hcR hnt (by omega) (hg.1 c27) hd hy).1, hch.up (row_unit_p hyc.1 hsnd hcR hnt (by omega) (hg.1 c27) hd hy).2.2.2, fun t ht => tl_or_l (hmo t ht), rfl, rfl, rfl⟩
            · skip
              refine V_skipk [0, 1, 2, 9] (by simp only [proj, lk, reduceIte, Nat.reduceEqDiff]; rfl) ?_
              refine hK7 _ _ ?_; clear hK7
              refine V_reg T.mix (by kernel_rfl) ?_
              refine S_mv rfl ?_
              first | refine S_add rfl rfl (by omega) (by omega) ?_ | refine S_bin rfl rfl rfl ?_
              refine S_as rfl ?_
              refine S_nilk [0, 1, 2, 9] (by simp only [proj, lk, reduceIte, Nat.reduceEqDiff]; rfl) ?_
              exact hK4 _ _ ⟨_, by omega, s + 1, y, o, by omega, hy, ho, hd, hsnd, hch.skip (fun d hd2 => by rw [hsc] at hd2; cases hd2; exact row_two_p hyc.1 hy (by intro e; have h0 : wo (nM c) (y ||| o) = 0 := (by omega); rw [e, h0] at c23; exact c23 rfl) (fun e => by rw [hg.2 e] at c27; cases c27)), hmo, rfl, rfl, rfl⟩
          · skip
            refine V_sr T.mix (by kernel_rfl) (fun K20 hK20 => ?_)
            refine S_mv rfl ?_
            refine S_bin rfl rfl rfl ?_
            refine S_nil (hK20 _ _ (V_keep [0, 1, 2, 9, 14, 70] (by simp only [proj, lk, reduceIte, Nat.reduceEqDiff]; rfl) ?_)); clear hK20
            refine V_condp rfl (fun c30 => ?_) (fun c30 => ?_)
            · skip
              refine V_sr T.mix (by kernel_rfl) (fun K21 hK21 => ?_)
              refine S_mv rfl ?_
              refine S_call T.hb80 rfl ?_
              refine FC.mono (one_spec h (wo (nM c) (y ||| o)) (wo_lt (n := 12) (by omega))) ?_
              rintro v' h' ⟨g, rfl, hg, rfl⟩
              refine S_nil (hK21 _ _ (V_keep [0, 1, 2, 9, 14, 72] (by simp only [proj, lk, reduceIte, Nat.reduceEqDiff]; rfl) ?_)); clear hK21
              refine V_condb rfl (fun c31 => ?_) (fun c31 => ?_)
              · skip
                refine V_reg T.mix (by kernel_rfl) ?_
                refine S_mv rfl ?_
                refine S_mv rfl ?_
                refine S_nor o (wo (nM c) (y ||| o)) _ rfl rfl rfl rfl rfl (t16 ho) (t16 (wo_lt (n := 12) hnl)) ?_
                refine S_as rfl ?_
                refine S_nilk [0, 1, 2, 9] (by simp only [proj, lk, reduceIte, Nat.reduceEqDiff]; rfl) ?_
                refine hK7 _ _ ?_; clear hK7
                refine V_reg T.mix (by kernel_rfl) ?_
                refine S_mv rfl ?_
                first | refine S_add rfl rfl (by omega) (by omega) ?_ | refine S_bin rfl rfl rfl ?_
                refine S_as rfl ?_
                refine S_nilk [0, 1, 2, 9] (by simp only [proj, lk, reduceIte, Nat.reduceEqDiff]; rfl) ?_
                exact hK4 _ _ ⟨_, by omega, s + 1, y, (o ||| (wo (nM c) (y ||| o))), by omega, hy, (row_unit_n hyc.1 hsnd hcR hnt (by omega) (hg.1 c31) hd ho).2.2.1, (row_unit_n hyc.1 hsnd hcR hnt (by omega) (hg.1 c31) hd ho).2.1, (row_unit_n hyc.1 hsnd hcR hnt (by omega) (hg.1 c31) hd ho).1, hch.up (row_unit_n hyc.1 hsnd hcR hnt (by omega) (hg.1 c31) hd ho).2.2.2, fun t ht => tl_or_r (hmo t ht), rfl, rfl, rfl⟩
              · skip
                refine V_skipk [0, 1, 2, 9] (by simp only [proj, lk, reduceIte, Nat.reduceEqDiff]; rfl) ?_
                refine hK7 _ _ ?_; clear hK7
                refine V_reg T.mix (by kernel_rfl) ?_
                refine S_mv rfl ?_
                first | refine S_add rfl rfl (by omega) (by omega) ?_ | refine S_bin rfl rfl rfl ?_
                refine S_as rfl ?_
                refine S_nilk [0, 1, 2, 9] (by simp only [proj, lk, reduceIte, Nat.reduceEqDiff]; rfl) ?_
                exact hK4 _ _ ⟨_, by omega, s + 1, y, o, by omega, hy, ho, hd, hsnd, hch.skip (fun d hd2 => by rw [hsc] at hd2; cases hd2; exact row_two_n hyc.1 (by omega) (fun e => by rw [hg.2 e] at c31; cases c31)), hmo, rfl, rfl, rfl⟩
            · skip
              refine V_skipk [0, 1, 2, 9] (by simp only [proj, lk, reduceIte, Nat.reduceEqDiff]; rfl) ?_
              refine hK7 _ _ ?_; clear hK7
              refine V_reg T.mix (by kernel_rfl) ?_
              refine S_mv rfl ?_
              first | refine S_add rfl rfl (by omega) (by omega) ?_ | refine S_bin rfl rfl rfl ?_
              refine S_as rfl ?_
              refine S_nilk [0, 1, 2, 9] (by simp only [proj, lk, reduceIte, Nat.reduceEqDiff]; rfl) ?_
              exact hK4 _ _ ⟨_, by omega, s + 1, y, o, by omega, hy, ho, hd, hsnd, hch.skip (fun d hd2 => by rw [hsc] at hd2; cases hd2; exact row_two hyc.1 (by omega) (by omega)), hmo, rfl, rfl, rfl⟩
  · skip
    refine V_exitk [1, 2] rfl (by simp only [proj, lk, reduceIte, Nat.reduceEqDiff]; rfl) ?_
    refine hK2 _ _ ?_; clear hK2
    refine V_sr T.mix (by kernel_rfl) (fun K22 hK22 => ?_)
    refine S_mv rfl ?_
    refine S_mv rfl ?_
    refine S_as rfl ?_
    refine S_as rfl ?_
    refine S_as rfl ?_
    refine S_nil (hK22 _ _ (V_keep [6, 7, 8] (by simp only [proj, lk, reduceIte, Nat.reduceEqDiff]; rfl) ?_)); clear hK22
    refine V_ret ?_
    refine hR _ _ (ret3 rfl rfl rfl rfl ?_)
    have hs64 : s = 64 := by omega
    subst hs64
    exact ⟨y, o, false, rfl, rfl, fun e => (by cases e), fun _ => ⟨hy, ho, hd, hsnd, hch, hmo⟩⟩
set_option maxHeartbeats 400000 in
theorem rup_spec (h : Heap) (C X : Nat) (sl : Nat → Option (List Int)) (ks : KS h C X sl) (c : List Int) (hc : Nrm c) :
    FC Try.prog 66 (#[.pointer (some ⟨C, 0, none⟩), .int .u16 (pM c : Int), .int .u16 (nM c : Int)] : Array Value) h fun rv h' => ∃ g : Bool, rv = .bool g ∧ h = h' ∧ (g = true ↔ ¬ Fix (rowsS sl 64) (deny c)) := by
  have hpl := pM_lt hc.1
  have hnl := nM_lt hc.1
  have hdj := hc.disj
  refine FC_of [(0, .pointer (some ⟨C, 0, none⟩)), (1, .int .u16 (pM c : Int)), (2, .int .u16 (nM c : Int))] Try.func66 rfl Try.ntmps66 (by simp) rfl (fun R hR => ?_)
  refine V_sr T.mix (by kernel_rfl) (fun K1 hK1 => ?_)
  refine S_as rfl ?_
  refine S_nil (hK1 _ _ (V_keep [0, 1, 2] (by simp only [proj, lk, reduceIte, Nat.reduceEqDiff]; rfl) ?_)); clear hK1
  refine V_sr T.mix (by kernel_rfl) (fun K2 hK2 => ?_)
  refine S_mv rfl ?_
  refine S_mv rfl ?_
  refine S_as rfl ?_
  refine S_as rfl ?_
  refine S_nil (hK2 _ _ (V_keep [0, 7, 8] (by simp only [proj, lk, reduceIte, Nat.reduceEqDiff]; rfl) ?_)); clear hK2
  refine V_seq (fun K3 hK3 => ?_)
  refine V_sr T.mix (by kernel_rfl) (fun K4 hK4 => ?_)
  refine S_as rfl ?_
  refine S_nil (hK4 _ _ (V_keep [0, 7, 8, 9] (by simp only [proj, lk, reduceIte, Nat.reduceEqDiff]; rfl) ?_)); clear hK4
  refine V_block ?_
  refine V_loop (fun m l h' => ∃ (r : Nat) (y : Nat) (o : Nat), (r ≤ 13) ∧ (r ≤ vcnt y o) ∧ (y < 4096) ∧ (o < 4096) ∧ (y &&& o = 0) ∧ (Snd (rowsS sl 64) (deny c) (tl y o)) ∧ (∀ t, deny c t → tl y o t) ∧ m = 13 - r ∧ l = [(0, .pointer (some ⟨C, 0, none⟩)), (7, .int .u16 (y : Int)), (8, .int .u16 (o : Int)), (9, .int .i64 (r : Int))] ∧ h = h') _ ⟨0, nM c, pM c, by omega, Nat.zero_le _, hnl, hpl, by rw [Nat.and_comm]; exact hdj, fun S h1 h2 h3 t ht => h1 t ((deny_tl hc.1).2 ht), fun t ht => (deny_tl hc.1).1 ht, rfl, rfl, rfl⟩ ?_
  rintro m l h' ⟨r, y, o, hr, hrv, hy, ho, hd, hsnd, hon, rfl, rfl, rfl⟩ K5 hK5
  refine V_seq (fun K6 hK6 => ?_)
  refine V_sr T.mix (by kernel_rfl) (fun K7 hK7 => ?_)
  refine S_mv rfl ?_
  refine S_bin rfl rfl rfl ?_
  refine S_nil (hK7 _ _ (V_keep [0, 7, 8, 9, 16] (by simp only [proj, lk, reduceIte, Nat.reduceEqDiff]; rfl) ?_)); clear hK7
  refine V_condp rfl (fun c43 => ?_) (fun c43 => ?_)
  · skip
    refine V_skipk [0, 7, 8, 9] (by simp only [proj, lk, reduceIte, Nat.reduceEqDiff]; rfl) ?_
    refine hK6 _ _ ?_; clear hK6
    refine V_seq (fun K8 hK8 => ?_)
    refine V_block ?_
    refine V_sr T.mix (by kernel_rfl) (fun K9 hK9 => ?_)
    refine S_mv rfl ?_
    refine S_mv rfl ?_
    refine S_mv rfl ?_
    refine S_call T.hb77 rfl ?_
    refine FC.mono (sweep_spec h C X sl ks (deny c) y o hy ho hd hsnd) ?_
    rintro v' h' ⟨y2, o2, hit, rfl, rfl, hit1, hit2⟩
    refine S_mv rfl ?_
    refine S_ex rfl rfl ?_
    refine S_ex rfl rfl ?_
    refine S_ex rfl rfl ?_
    refine S_as rfl ?_
    refine S_as rfl ?_
    refine S_as rfl ?_
    refine S_nil (hK9 _ _ (V_keep [0, 7, 8, 9, 10, 11, 12] (by simp only [proj, lk, reduceIte, Nat.reduceEqDiff]; rfl) ?_)); clear hK9
    refine V_seq (fun K10 hK10 => ?_)
    refine V_sr T.mix (by kernel_rfl) (fun K11 hK11 => ?_)
    refine S_mv rfl ?_
    refine S_nil (hK11 _ _ (V_keep [0, 7, 8, 9, 10, 11, 27] (by simp only [proj, lk, reduceIte, Nat.reduceEqDiff]; rfl) ?_)); clear hK11
    refine V_condb rfl (fun c45 => ?_) (fun c45 => ?_)
    · skip
      refine V_sr T.mix (by kernel_rfl) (fun K12 hK12 => ?_)
      refine S_as rfl ?_
      refine S_nil (hK12 _ _ (V_keep [6] (by simp only [proj, lk, reduceIte, Nat.reduceEqDiff]; rfl) ?_)); clear hK12
      refine V_ret ?_
      refine hR _ _ (ret1 rfl rfl ?_)
      exact ⟨true, rfl, rfl, ⟨fun _ => hit1 (by simpa using c45), fun _ => rfl⟩⟩
    · skip
      have f1 := hit2 (by simpa using c45)
      have f4 := f1.2.2.2.2.1
      refine V_skipk [0, 7, 8, 9, 10, 11] (by simp only [proj, lk, reduceIte, Nat.reduceEqDiff]; rfl) ?_
      refine hK10 _ _ ?_; clear hK10
      refine V_seq (fun K13 hK13 => ?_)
      refine V_sr T.mix (by kernel_rfl) (fun K14 hK14 => ?_)
      refine S_mv rfl ?_
      refine S_mv rfl ?_
      refine S_bin rfl rfl rfl ?_
      refine S_mv rfl ?_
      refine S_dec (fun g48 => ?_) (fun g48 => ?_)
      · skip
        refine S_gt rfl ?_
        refine S_mv rfl ?_
        refine S_gt rfl ?_
        refine S_mv rfl ?_
        refine S_gt rfl ?_
        refine S_bin rfl rfl rfl ?_
        refine S_pt rfl rfl ?_
        refine S_nil (hK14 _ _ (V_keep [0, 9, 10, 11, 35] (by simp only [proj, lk, reduceIte, Nat.reduceEqDiff]; rfl) ?_)); clear hK14
        refine V_condp rfl (fun c48 => ?_) (fun c48 => ?_)
        · skip
          refine V_sr T.mix (by kernel_rfl) (fun K15 hK15 => ?_)
          refine S_as rfl ?_
          refine S_nil (hK15 _ _ (V_keep [6] (by simp only [proj, lk, reduceIte, Nat.reduceEqDiff]; rfl) ?_)); clear hK15
          refine V_ret ?_
          refine hR _ _ (ret1 rfl rfl ?_)
          exact ⟨false, rfl, rfl, ⟨fun e => (by cases e), fun e => absurd ⟨tl y o, hon, tl_con hd, fun d hdm => by obtain ⟨i, hi, he⟩ := mem_rows.1 hdm; rcases f4 with q | q; (exact q.2.2 i hi d he); (rw [show y2 = y by omega, show o2 = o by omega] at q; omega)⟩ e⟩⟩
        · skip
          refine V_skipk [0, 9, 10, 11] (by simp only [proj, lk, reduceIte, Nat.reduceEqDiff]; rfl) ?_
          refine hK13 _ _ ?_; clear hK13
          refine V_reg T.mix (by kernel_rfl) ?_
          refine S_mv rfl ?_
          refine S_mv rfl ?_
          refine S_as rfl ?_
          refine S_as rfl ?_
          refine S_nilk [0, 7, 8, 9] (by simp only [proj, lk, reduceIte, Nat.reduceEqDiff]; rfl) ?_
          refine hK8 _ _ ?_; clear hK8
          refine V_reg T.mix (by kernel_rfl) ?_
          refine S_mv rfl ?_
          first | refine S_add rfl rfl (by omega) (by omega) ?_ | refine S_bin rfl rfl rfl ?_
          refine S_as rfl ?_
          refine S_nilk [0, 7, 8, 9] (by simp only [proj, lk, reduceIte, Nat.reduceEqDiff]; rfl) ?_
          exact hK5 _ _ ⟨_, by omega, r + 1, y2, o2, by omega, by rcases f4 with e | e; (have q1 := e.1; have q2 := e.2.1; omega); (omega), f1.1, f1.2.1, f1.2.2.1, f1.2.2.2.1, fun t ht => f1.2.2.2.2.2 t (hon t ht), rfl, rfl, rfl⟩
      · skip
        refine S_gf rfl ?_
        refine S_gf rfl ?_
        refine S_gf rfl ?_
        refine S_pf rfl rfl ?_
        refine S_nil (hK14 _ _ (V_keep [0, 9, 10, 11, 35] (by simp only [proj, lk, reduceIte, Nat.reduceEqDiff]; rfl) ?_)); clear hK14
        refine V_condf rfl ?_
        refine V_skipk [0, 9, 10, 11] (by simp only [proj, lk, reduceIte, Nat.reduceEqDiff]; rfl) ?_
        refine hK13 _ _ ?_; clear hK13
        refine V_reg T.mix (by kernel_rfl) ?_
        refine S_mv rfl ?_
        refine S_mv rfl ?_
        refine S_as rfl ?_
        refine S_as rfl ?_
        refine S_nilk [0, 7, 8, 9] (by simp only [proj, lk, reduceIte, Nat.reduceEqDiff]; rfl) ?_
        refine hK8 _ _ ?_; clear hK8
        refine V_reg T.mix (by kernel_rfl) ?_
        refine S_mv rfl ?_
        first | refine S_add rfl rfl (by omega) (by omega) ?_ | refine S_bin rfl rfl rfl ?_
        refine S_as rfl ?_
        refine S_nilk [0, 7, 8, 9] (by simp only [proj, lk, reduceIte, Nat.reduceEqDiff]; rfl) ?_
        exact hK5 _ _ ⟨_, by omega, r + 1, y2, o2, by omega, by rcases f4 with e | e; (have q1 := e.1; have q2 := e.2.1; omega); (omega), f1.1, f1.2.1, f1.2.2.1, f1.2.2.2.1, fun t ht => f1.2.2.2.2.2 t (hon t ht), rfl, rfl, rfl⟩
  · skip
    refine V_exitk [] rfl (by simp only [proj, lk, reduceIte, Nat.reduceEqDiff]; rfl) ?_
    refine hK3 _ _ ?_; clear hK3
    refine V_sr T.mix (by kernel_rfl) (fun K16 hK16 => ?_)
    refine S_as rfl ?_
    refine S_nil (hK16 _ _ (V_keep [6] (by simp only [proj, lk, reduceIte, Nat.reduceEqDiff]; rfl) ?_)); clear hK16
    refine V_ret ?_
    refine hR _ _ (ret1 rfl rfl ?_)
    exact absurd (vcnt_le y o) (by omega)
set_option maxHeartbeats 400000 in
theorem lowest_spec (h : Heap) (a : Nat) (ha : a < 18446744073709551616) :
    FC Try.prog 63 (#[.int .u64 (a : Int)] : Array Value) h fun rv h' => ∃ r : Int, rv = .int .i64 r ∧ h = h' ∧ ((∃ s : Nat, s < 64 ∧ r = s ∧ a.testBit s = true) ∨ (r = -1 ∧ ∀ j, j < 64 → a.testBit j = false)) := by
  refine FC_of [(0, .int .u64 (a : Int))] Try.func63 rfl Try.ntmps63 (by simp) rfl (fun R hR => ?_)
  refine V_sr T.mix (by kernel_rfl) (fun K1 hK1 => ?_)
  refine S_as rfl ?_
  refine S_nil (hK1 _ _ (V_keep [0] (by simp only [proj, lk, reduceIte, Nat.reduceEqDiff]; rfl) ?_)); clear hK1
  refine V_seq (fun K2 hK2 => ?_)
  refine V_sr T.mix (by kernel_rfl) (fun K3 hK3 => ?_)
  refine S_as rfl ?_
  refine S_nil (hK3 _ _ (V_keep [0, 3] (by simp only [proj, lk, reduceIte, Nat.reduceEqDiff]; rfl) ?_)); clear hK3
  refine V_block ?_
  refine V_loop (fun m l h' => ∃ (s : Nat), (s ≤ 64) ∧ (∀ j, j < s → a.testBit j = false) ∧ m = 64 - s ∧ l = [(0, .int .u64 (a : Int)), (3, .int .i64 (s : Int))] ∧ h = h') _ ⟨0, by omega, fun j hj => by omega, rfl, rfl, rfl⟩ ?_
  rintro m l h' ⟨s, hs, hn, rfl, rfl, rfl⟩ K4 hK4
  refine V_seq (fun K5 hK5 => ?_)
  refine V_sr T.mix (by kernel_rfl) (fun K6 hK6 => ?_)
  refine S_mv rfl ?_
  refine S_bin rfl rfl rfl ?_
  refine S_nil (hK6 _ _ (V_keep [0, 3, 5] (by simp only [proj, lk, reduceIte, Nat.reduceEqDiff]; rfl) ?_)); clear hK6
  refine V_condp rfl (fun c27 => ?_) (fun c27 => ?_)
  · skip
    have h2s := two64 (s := s) (by omega)
    refine V_skipk [0, 3] (by simp only [proj, lk, reduceIte, Nat.reduceEqDiff]; rfl) ?_
    refine hK5 _ _ ?_; clear hK5
    refine V_seq (fun K7 hK7 => ?_)
    refine V_block ?_
    refine V_sr T.mix (by kernel_rfl) (fun K8 hK8 => ?_)
    refine S_mv rfl ?_
    refine S_mv rfl ?_
    refine S_call T.hb16 rfl ?_
    refine FC.mono (slotbit_spec h s (by omega)) ?_
    rintro v' h' ⟨rfl, rfl⟩
    first | refine S_uand rfl rfl rfl (by first | omega | (simp only [IntKind.bits]; omega)) (by first | omega | (simp only [IntKind.bits]; omega)) ?_ | refine S_bin rfl rfl rfl ?_
    refine S_bin rfl rfl rfl ?_
    refine S_nil (hK8 _ _ (V_keep [0, 3, 12] (by simp only [proj, lk, reduceIte, Nat.reduceEqDiff]; rfl) ?_)); clear hK8
    refine V_condp rfl (fun c28 => ?_) (fun c28 => ?_)
    · skip
      refine V_sr T.mix (by kernel_rfl) (fun K9 hK9 => ?_)
      refine S_mv rfl ?_
      refine S_as rfl ?_
      refine S_nil (hK9 _ _ (V_keep [2] (by simp only [proj, lk, reduceIte, Nat.reduceEqDiff]; rfl) ?_)); clear hK9
      refine V_ret ?_
      refine hR _ _ (ret1 rfl rfl ?_)
      exact ⟨_, rfl, rfl, .inl ⟨s, by omega, rfl, by by_cases e : a.testBit s = true; (exact e); (exact absurd ((and_bit a s).2 (by simpa using e)) (by omega))⟩⟩
    · skip
      refine V_skipk [0, 3] (by simp only [proj, lk, reduceIte, Nat.reduceEqDiff]; rfl) ?_
      refine hK7 _ _ ?_; clear hK7
      refine V_reg T.mix (by kernel_rfl) ?_
      refine S_mv rfl ?_
      first | refine S_add rfl rfl (by omega) (by omega) ?_ | refine S_bin rfl rfl rfl ?_
      refine S_as rfl ?_
      refine S_nilk [0, 3] (by simp only [proj, lk, reduceIte, Nat.reduceEqDiff]; rfl) ?_
      exact hK4 _ _ ⟨_, by omega, s + 1, by omega, fun j hj => by by_cases e : j = s; (subst e; exact (and_bit a j).1 (by omega)); (exact hn j (by omega)), rfl, rfl, rfl⟩
  · skip
    refine V_exitk [] rfl (by simp only [proj, lk, reduceIte, Nat.reduceEqDiff]; rfl) ?_
    refine hK2 _ _ ?_; clear hK2
    refine V_sr T.mix (by kernel_rfl) (fun K10 hK10 => ?_)
    refine S_as rfl ?_
    refine S_nil (hK10 _ _ (V_keep [2] (by simp only [proj, lk, reduceIte, Nat.reduceEqDiff]; rfl) ?_)); clear hK10
    refine V_ret ?_
    refine hR _ _ (ret1 rfl rfl ?_)
    exact ⟨_, rfl, rfl, .inr ⟨rfl, fun j hj => hn j (by omega)⟩⟩
set_option maxHeartbeats 400000 in
theorem put_spec (h : Heap) (C X : Nat) (sl : Nat → Option (List Int)) (ks : KS h C X sl) (c : List Int) (hc : Nrm c) (hfull : (rowsS sl 64).length < 64) :
    FC Try.prog 49 (#[.pointer (some ⟨C, 0, none⟩), .int .u16 (pM c : Int), .int .u16 (nM c : Int)] : Array Value) h fun rv h' => rv = .tuple #[] ∧ (∃ s, s < 64 ∧ sl s = none ∧ KS h' C X (ups sl s (some c))) ∧ Ext (fun x => x = C) h h' := by
  obtain ⟨Q, hB, hS⟩ := ks
  have hlt := hS.lt
  have hE := Ext.refl (fun x => x = C) h
  have hpl := pM_lt hc.1
  have hnl := nM_lt hc.1
  have hem : Q.emp ≤ 64 := by rw [hS.em]; unfold ecnt; have h1 := List.length_filter_le (fun c : List Int => c.isEmpty) (rowsS sl 64); omega
  refine FC_of [(0, .pointer (some ⟨C, 0, none⟩)), (1, .int .u16 (pM c : Int)), (2, .int .u16 (nM c : Int))] Try.func49 rfl Try.ntmps49 (by simp) rfl (fun R hR => ?_)
  refine V_sr T.mix (by kernel_rfl) (fun K1 hK1 => ?_)
  refine S_mv rfl ?_
  refine S_nc rfl ?_
  first | refine S_fa0 T.f47_3 rfl ?_ | refine S_fa T.f47_3 rfl ?_
  refine S_ldK T.ag45 rfl (fun K' hK' => ?_)
  simp (disch := omega) only [klP hB, klUsed hB, klEmp hB, klPos hB, klNeg hB, oP_some, Nat.add_zero]
  refine hK' _ ?_; clear hK' K'
  refine S_nnot64 Q.used rfl rfl hlt ?_
  refine S_call T.hb63 rfl ?_
  refine FC.mono (lowest_spec h _ (Nat.xor_lt_two_pow (n := 64) (by decide) hlt)) ?_
  rintro v' h' ⟨r, rfl, rfl, hlo⟩
  obtain ⟨s, hs, rfl, hbit⟩ : ∃ s : Nat, s < 64 ∧ r = s ∧ Q.used.testBit s = false := by
    rcases hlo with ⟨s, h1, h2, h3⟩ | ⟨h1, h2⟩
    · exact ⟨s, h1, h2, by rw [not_bit hlt h1] at h3; simpa using h3⟩
    · exfalso
      have := (rows_len (sl := sl) 64).2.1 (fun i hi e => by have h9 := h2 i hi; rw [not_bit hlt hi, (hS.no i hi e).2.2] at h9; cases h9)
      omega
  have hfr : sl s = none := (hS.free hs).1 ((and_bit _ _).2 hbit)
  have h2s := two64 hs
  refine S_as rfl ?_
  refine S_nil (hK1 _ _ (V_keep [0, 1, 2, 6] (by simp only [proj, lk, reduceIte, Nat.reduceEqDiff]; rfl) ?_)); clear hK1
  refine V_sr T.mix (by kernel_rfl) (fun K2 hK2 => ?_)
  refine S_mv rfl ?_
  refine S_mv rfl ?_
  refine S_mv rfl ?_
  refine S_nc rfl ?_
  first | refine S_fa0 T.f47_1 rfl ?_ | refine S_fa T.f47_1 rfl ?_
  first | refine S_ixan T.ar44 rfl rfl (by omega) ?_ | refine S_ixa1 T.ar44 rfl rfl (by omega) (by omega) ?_
  refine S_st T.sz43 rfl rfl rfl rfl (by simp (disch := omega) only [kok hB]) ?_
  generalize hh : putH _ _ _ = h1
  have hBh1 : KB h1 C X { Q with pos := upn Q.pos s (pM c) } := by rw [← hh]; exact ksPos hB s (pM c) hs
  have hEh1 : Ext (fun x => x = C) h h1 := by rw [← hh]; exact Ext.put _ _ rfl
  clear hh
  replace hE := hE.trans hEh1
  clear hB
  have hB := hBh1
  refine S_nil (hK2 _ _ (V_keep [0, 1, 2, 6] (by simp only [proj, lk, reduceIte, Nat.reduceEqDiff]; rfl) ?_)); clear hK2
  refine V_sr T.mix (by kernel_rfl) (fun K3 hK3 => ?_)
  refine S_mv rfl ?_
  refine S_mv rfl ?_
  refine S_mv rfl ?_
  refine S_nc rfl ?_
  first | refine S_fa0 T.f47_2 rfl ?_ | refine S_fa T.f47_2 rfl ?_
  first | refine S_ixan T.ar44 rfl rfl (by omega) ?_ | refine S_ixa1 T.ar44 rfl rfl (by omega) (by omega) ?_
  refine S_st T.sz43 rfl rfl rfl rfl (by simp (disch := omega) only [kok hB]) ?_
  generalize hh : putH _ _ _ = h2
  have hBh2 : KB h2 C X { Q with pos := upn Q.pos s (pM c), neg := upn Q.neg s (nM c) } := by rw [← hh]; exact ksNeg hB s (nM c) hs
  have hEh2 : Ext (fun x => x = C) h1 h2 := by rw [← hh]; exact Ext.put _ _ rfl
  clear hh
  replace hE := hE.trans hEh2
  clear hB
  have hB := hBh2
  refine S_nil (hK3 _ _ (V_keep [0, 1, 2, 6] (by simp only [proj, lk, reduceIte, Nat.reduceEqDiff]; rfl) ?_)); clear hK3
  refine V_srM #[0, 1, 2, 3, 4, 5, 6, 7, 8, 9, 10] [0, 1, 2, 3, 4, 5] 6 [7, 8, 9, 10] T.mix (by kernel_rfl) rfl ⟨rfl, rfl⟩ (fun K4 hK4 => ?_)
  refine S_mv rfl ?_
  refine S_mv rfl ?_
  refine S_nc rfl ?_
  first | refine S_fa0 T.f47_3 rfl ?_ | refine S_fa T.f47_3 rfl ?_
  refine S_ldK T.ag45 rfl (fun K' hK' => ?_)
  simp (disch := omega) only [klP hB, klUsed hB, klEmp hB, klPos hB, klNeg hB, oP_some, Nat.add_zero]
  refine hK' _ ?_; clear hK' K'
  refine S_mv rfl ?_
  refine S_nil ?_
  refine SM_call T.hb16 rfl ?_
  refine FC.mono (slotbit_spec h2 s hs) ?_
  rintro v' h' ⟨rfl, rfl⟩
  first | refine ⟨Grows.refl _, ?_⟩ | refine ⟨Grows.of_ext (by assumption), ?_⟩
  first | refine S_uor rfl rfl rfl (by first | omega | (simp only [IntKind.bits]; omega)) (by first | omega | (simp only [IntKind.bits]; omega)) ?_ | refine S_bin rfl rfl rfl ?_
  refine S_nc rfl ?_
  first | refine S_fa0 T.f47_3 rfl ?_ | refine S_fa T.f47_3 rfl ?_
  refine S_st T.sz45 rfl rfl rfl rfl (by simp (disch := omega) only [kok hB]) ?_
  generalize hh : putH _ _ _ = h3
  have hBh3 : KB h3 C X { Q with pos := upn Q.pos s (pM c), neg := upn Q.neg s (nM c), used := Q.used ||| 2 ^ s } := by rw [← hh]; exact ksUsed hB (Q.used ||| 2 ^ s)
  have hEh3 : Ext (fun x => x = C) h2 h3 := by rw [← hh]; exact Ext.put _ _ rfl
  clear hh
  replace hE := hE.trans hEh3
  clear hB
  have hB := hBh3
  refine S_nil (hK4 _ _ (V_keep [0, 1, 2] (by simp only [proj, lk, reduceIte, Nat.reduceEqDiff]; rfl) ?_)); clear hK4
  refine V_sr T.mix (by kernel_rfl) (fun K5 hK5 => ?_)
  refine S_mv rfl ?_
  refine S_mv rfl ?_
  refine S_nor (pM c) (nM c) _ rfl rfl rfl rfl rfl (t16 hpl) (t16 hnl) ?_
  refine S_bin rfl rfl rfl ?_
  refine S_nil (hK5 _ _ (V_keep [0, 38] (by simp only [proj, lk, reduceIte, Nat.reduceEqDiff]; rfl) ?_)); clear hK5
  refine V_condp rfl (fun c41 => ?_) (fun c41 => ?_)
  · skip
    refine V_reg T.mix (by kernel_rfl) ?_
    refine S_mv rfl ?_
    refine S_nc rfl ?_
    first | refine S_fa0 T.f47_4 rfl ?_ | refine S_fa T.f47_4 rfl ?_
    refine S_ldK T.ag3 rfl (fun K' hK' => ?_)
    simp (disch := omega) only [klP hB, klUsed hB, klEmp hB, klPos hB, klNeg hB, oP_some, Nat.add_zero]
    refine hK' _ ?_; clear hK' K'
    first | refine S_add rfl rfl (by omega) (by omega) ?_ | refine S_bin rfl rfl rfl ?_
    refine S_nc rfl ?_
    first | refine S_fa0 T.f47_4 rfl ?_ | refine S_fa T.f47_4 rfl ?_
    refine S_st T.sz3 rfl rfl rfl rfl (by simp (disch := omega) only [kok hB]) ?_
    generalize hh : putH _ _ _ = h4
    have hBh4 : KB h4 C X { Q with pos := upn Q.pos s (pM c), neg := upn Q.neg s (nM c), used := Q.used ||| 2 ^ s, emp := Q.emp + 1 } := by rw [← hh]; exact ksEmp hB (Q.emp + 1)
    have hEh4 : Ext (fun x => x = C) h3 h4 := by rw [← hh]; exact Ext.put _ _ rfl
    clear hh
    replace hE := hE.trans hEh4
    clear hB
    have hB := hBh4
    refine S_nilk [] (by simp only [proj, lk, reduceIte, Nat.reduceEqDiff]; rfl) ?_
    -- end
    refine hR _ _ (ret0 rfl ?_)
    exact ⟨rfl, ⟨s, hs, hfr, _, hB, by have h9 := hS.put hs hfr hc; rw [if_pos (hc.empty.1 (by omega))] at h9; exact h9⟩, hE⟩
  · skip
    refine V_skipk [] (by simp only [proj, lk, reduceIte, Nat.reduceEqDiff]; rfl) ?_
    -- end
    refine hR _ _ (ret0 rfl ?_)
    exact ⟨rfl, ⟨s, hs, hfr, _, hB, by have h9 := hS.put hs hfr hc; rw [if_neg (fun e => c41 (by rw [hc.empty.2 e]; rfl))] at h9; exact h9⟩, hE⟩
set_option maxHeartbeats 400000 in
theorem seek_spec (h : Heap) (C X : Nat) (sl : Nat → Option (List Int)) (ks : KS h C X sl) (c : List Int) (hc : Nrm c) :
    FC Try.prog 64 (#[.pointer (some ⟨C, 0, none⟩), .int .u16 (pM c : Int), .int .u16 (nM c : Int)] : Array Value) h fun rv h' => ∃ r : Int, rv = .int .i64 r ∧ h = h' ∧ ((∃ s : Nat, s < 64 ∧ r = s ∧ sl s = some c) ∨ (r = -1 ∧ ∀ j, j < 64 → sl j ≠ some c)) := by
  obtain ⟨Q, hB, hS⟩ := ks
  have hlt := hS.lt
  refine FC_of [(0, .pointer (some ⟨C, 0, none⟩)), (1, .int .u16 (pM c : Int)), (2, .int .u16 (nM c : Int))] Try.func64 rfl Try.ntmps64 (by simp) rfl (fun R hR => ?_)
  refine V_sr T.mix (by kernel_rfl) (fun K1 hK1 => ?_)
  refine S_as rfl ?_
  refine S_nil (hK1 _ _ (V_keep [0, 1, 2] (by simp only [proj, lk, reduceIte, Nat.reduceEqDiff]; rfl) ?_)); clear hK1
  refine V_seq (fun K2 hK2 => ?_)
  refine V_sr T.mix (by kernel_rfl) (fun K3 hK3 => ?_)
  refine S_as rfl ?_
  refine S_nil (hK3 _ _ (V_keep [0, 1, 2, 7] (by simp only [proj, lk, reduceIte, Nat.reduceEqDiff]; rfl) ?_)); clear hK3
  refine V_block ?_
  refine V_loop (fun m l h' => ∃ (s : Nat), (s ≤ 64) ∧ (∀ j, j < s → sl j ≠ some c) ∧ m = 64 - s ∧ l = [(0, .pointer (some ⟨C, 0, none⟩)), (1, .int .u16 (pM c : Int)), (2, .int .u16 (nM c : Int)), (7, .int .i64 (s : Int))] ∧ h = h') _ ⟨0, by omega, fun j hj => by omega, rfl, rfl, rfl⟩ ?_
  rintro m l h' ⟨s, hs, hn, rfl, rfl, rfl⟩ K4 hK4
  refine V_seq (fun K5 hK5 => ?_)
  refine V_sr T.mix (by kernel_rfl) (fun K6 hK6 => ?_)
  refine S_mv rfl ?_
  refine S_bin rfl rfl rfl ?_
  refine S_nil (hK6 _ _ (V_keep [0, 1, 2, 7, 9] (by simp only [proj, lk, reduceIte, Nat.reduceEqDiff]; rfl) ?_)); clear hK6
  refine V_condp rfl (fun c48 => ?_) (fun c48 => ?_)
  · skip
    have h2s := two64 (s := s) (by omega)
    refine V_skipk [0, 1, 2, 7] (by simp only [proj, lk, reduceIte, Nat.reduceEqDiff]; rfl) ?_
    refine hK5 _ _ ?_; clear hK5
    refine V_seq (fun K7 hK7 => ?_)
    refine V_block ?_
    refine V_srM #[0, 1, 2, 3, 4, 5, 6, 7] [0, 1, 2, 3, 4] 5 [6, 7] T.mix (by kernel_rfl) rfl ⟨rfl, rfl⟩ (fun K8 hK8 => ?_)
    refine S_mv rfl ?_
    refine S_nc rfl ?_
    first | refine S_fa0 T.f47_3 rfl ?_ | refine S_fa T.f47_3 rfl ?_
    refine S_ldK T.ag45 rfl (fun K' hK' => ?_)
    simp (disch := omega) only [klP hB, klUsed hB, klEmp hB, klPos hB, klNeg hB, oP_some, Nat.add_zero]
    refine hK' _ ?_; clear hK' K'
    refine S_mv rfl ?_
    refine S_nil ?_
    refine SM_call T.hb16 rfl ?_
    refine FC.mono (slotbit_spec h s (by omega)) ?_
    rintro v' h' ⟨rfl, rfl⟩
    first | refine ⟨Grows.refl _, ?_⟩ | refine ⟨Grows.of_ext (by assumption), ?_⟩
    first | refine S_uand rfl rfl rfl (by first | omega | (simp only [IntKind.bits]; omega)) (by first | omega | (simp only [IntKind.bits]; omega)) ?_ | refine S_bin rfl rfl rfl ?_
    refine S_bin rfl rfl rfl ?_
    refine S_nil (hK8 _ _ (V_keep [0, 1, 2, 7, 19] (by simp only [proj, lk, reduceIte, Nat.reduceEqDiff]; rfl) ?_)); clear hK8
    refine V_condp rfl (fun c49 => ?_) (fun c49 => ?_)
    · skip
      refine V_sr T.mix (by kernel_rfl) (fun K9 hK9 => ?_)
      refine S_mv rfl ?_
      refine S_mv rfl ?_
      refine S_nc rfl ?_
      first | refine S_fa0 T.f47_1 rfl ?_ | refine S_fa T.f47_1 rfl ?_
      first | refine S_ixan T.ar44 rfl rfl (by omega) ?_ | refine S_ixa1 T.ar44 rfl rfl (by omega) (by omega) ?_
      refine S_ldK T.ag43 rfl (fun K' hK' => ?_)
      simp (disch := omega) only [klP hB, klUsed hB, klEmp hB, klPos hB, klNeg hB, oP_some, Nat.add_zero]
      refine hK' _ ?_; clear hK' K'
      refine S_mv rfl ?_
      refine S_bin rfl rfl rfl ?_
      refine S_mv rfl ?_
      refine S_dec (fun g50 => ?_) (fun g50 => ?_)
      · skip
        refine S_gt rfl ?_
        refine S_mv rfl ?_
        refine S_gt rfl ?_
        refine S_mv rfl ?_
        refine S_gt rfl ?_
        refine S_nc rfl ?_
        refine S_gt rfl ?_
        first | refine S_fa0 T.f47_2 rfl ?_ | refine S_fa T.f47_2 rfl ?_
        refine S_gt rfl ?_
        first | refine S_ixan T.ar44 rfl rfl (by omega) ?_ | refine S_ixa1 T.ar44 rfl rfl (by omega) (by omega) ?_
        refine S_gt rfl ?_
        refine S_ldK T.ag43 rfl (fun K' hK' => ?_)
        simp (disch := omega) only [klP hB, klUsed hB, klEmp hB, klPos hB, klNeg hB, oP_some, Nat.add_zero]
        refine hK' _ ?_; clear hK' K'
        refine S_gt rfl ?_
        refine S_mv rfl ?_
        refine S_gt rfl ?_
        refine S_bin rfl rfl rfl ?_
        refine S_pt rfl rfl ?_
        refine S_nil (hK9 _ _ (V_keep [0, 1, 2, 7, 37] (by simp only [proj, lk, reduceIte, Nat.reduceEqDiff]; rfl) ?_)); clear hK9
        refine V_condp rfl (fun c50 => ?_) (fun c50 => ?_)
        · skip
          refine V_sr T.mix (by kernel_rfl) (fun K10 hK10 => ?_)
          refine S_mv rfl ?_
          refine S_as rfl ?_
          refine S_nil (hK10 _ _ (V_keep [6] (by simp only [proj, lk, reduceIte, Nat.reduceEqDiff]; rfl) ?_)); clear hK10
          refine V_ret ?_
          refine hR _ _ (ret1 rfl rfl ?_)
          obtain ⟨d, hd⟩ : ∃ d, sl s = some d := by
            cases e : sl s with
            | none => exact absurd (by rw [(hS.free (by omega)).2 e]; rfl) c49
            | some d => exact ⟨d, rfl⟩
          have h8 := hS.yes s (by omega) d hd
          have hdc : d = c := h8.1.eq hc (by omega) (by omega)
          exact ⟨_, rfl, rfl, .inl ⟨s, by omega, rfl, by rw [hd, hdc]⟩⟩
        · skip
          refine V_skipk [0, 1, 2, 7] (by simp only [proj, lk, reduceIte, Nat.reduceEqDiff]; rfl) ?_
          refine hK7 _ _ ?_; clear hK7
          refine V_reg T.mix (by kernel_rfl) ?_
          refine S_mv rfl ?_
          first | refine S_add rfl rfl (by omega) (by omega) ?_ | refine S_bin rfl rfl rfl ?_
          refine S_as rfl ?_
          refine S_nilk [0, 1, 2, 7] (by simp only [proj, lk, reduceIte, Nat.reduceEqDiff]; rfl) ?_
          have h9 : sl s ≠ some c := fun e => by have h8 := hS.yes s (by omega) c e; first | (rw [h8.2.1] at g50; exact g50 rfl) | (rw [h8.2.2.1] at c50; exact c50 rfl) | (exact absurd ((hS.free (i := s) (by omega)).1 (by omega)) (by rw [e]; simp))
          exact hK4 _ _ ⟨_, by omega, s + 1, by omega, fun j hj => by by_cases e : j = s; (subst e; exact h9); (exact hn j (by omega)), rfl, rfl, rfl⟩
      · skip
        refine S_gf rfl ?_
        refine S_gf rfl ?_
        refine S_gf rfl ?_
        refine S_gf rfl ?_
        refine S_gf rfl ?_
        refine S_gf rfl ?_
        refine S_gf rfl ?_
        refine S_gf rfl ?_
        refine S_pf rfl rfl ?_
        refine S_nil (hK9 _ _ (V_keep [0, 1, 2, 7, 37] (by simp only [proj, lk, reduceIte, Nat.reduceEqDiff]; rfl) ?_)); clear hK9
        refine V_condf rfl ?_
        refine V_skipk [0, 1, 2, 7] (by simp only [proj, lk, reduceIte, Nat.reduceEqDiff]; rfl) ?_
        refine hK7 _ _ ?_; clear hK7
        refine V_reg T.mix (by kernel_rfl) ?_
        refine S_mv rfl ?_
        first | refine S_add rfl rfl (by omega) (by omega) ?_ | refine S_bin rfl rfl rfl ?_
        refine S_as rfl ?_
        refine S_nilk [0, 1, 2, 7] (by simp only [proj, lk, reduceIte, Nat.reduceEqDiff]; rfl) ?_
        have h9 : sl s ≠ some c := fun e => by have h8 := hS.yes s (by omega) c e; first | (rw [h8.2.1] at g50; exact g50 rfl) | (rw [h8.2.2.1] at c50; exact c50 rfl) | (exact absurd ((hS.free (i := s) (by omega)).1 (by omega)) (by rw [e]; simp))
        exact hK4 _ _ ⟨_, by omega, s + 1, by omega, fun j hj => by by_cases e : j = s; (subst e; exact h9); (exact hn j (by omega)), rfl, rfl, rfl⟩
    · skip
      refine V_skipk [0, 1, 2, 7] (by simp only [proj, lk, reduceIte, Nat.reduceEqDiff]; rfl) ?_
      refine hK7 _ _ ?_; clear hK7
      refine V_reg T.mix (by kernel_rfl) ?_
      refine S_mv rfl ?_
      first | refine S_add rfl rfl (by omega) (by omega) ?_ | refine S_bin rfl rfl rfl ?_
      refine S_as rfl ?_
      refine S_nilk [0, 1, 2, 7] (by simp only [proj, lk, reduceIte, Nat.reduceEqDiff]; rfl) ?_
      have h9 : sl s ≠ some c := fun e => by have h8 := hS.yes s (by omega) c e; first | (rw [h8.2.1] at g50; exact g50 rfl) | (rw [h8.2.2.1] at c50; exact c50 rfl) | (exact absurd ((hS.free (i := s) (by omega)).1 (by omega)) (by rw [e]; simp))
      exact hK4 _ _ ⟨_, by omega, s + 1, by omega, fun j hj => by by_cases e : j = s; (subst e; exact h9); (exact hn j (by omega)), rfl, rfl, rfl⟩
  · skip
    refine V_exitk [] rfl (by simp only [proj, lk, reduceIte, Nat.reduceEqDiff]; rfl) ?_
    refine hK2 _ _ ?_; clear hK2
    refine V_sr T.mix (by kernel_rfl) (fun K11 hK11 => ?_)
    refine S_as rfl ?_
    refine S_nil (hK11 _ _ (V_keep [6] (by simp only [proj, lk, reduceIte, Nat.reduceEqDiff]; rfl) ?_)); clear hK11
    refine V_ret ?_
    refine hR _ _ (ret1 rfl rfl ?_)
    exact ⟨_, rfl, rfl, .inr ⟨rfl, fun j hj => hn j (by omega)⟩⟩
set_option maxHeartbeats 400000 in
theorem drop_spec (h : Heap) (C X : Nat) (sl : Nat → Option (List Int)) (ks : KS h C X sl) (s : Nat) (hs : s < 64) (c : List Int) (hsc : sl s = some c) :
    FC Try.prog 65 (#[.pointer (some ⟨C, 0, none⟩), .int .i64 (s : Int)] : Array Value) h fun rv h' => rv = .tuple #[] ∧ KS h' C X (ups sl s none) ∧ Ext (fun x => x = C) h h' := by
  obtain ⟨Q, hB, hS⟩ := ks
  have hlt := hS.lt
  have hE := Ext.refl (fun x => x = C) h
  have hyc := hS.yes s hs c hsc
  have hpl := pM_lt hyc.1.1
  have hnl := nM_lt hyc.1.1
  have h2s := two64 hs
  have hem : Q.emp ≤ 64 := by rw [hS.em]; unfold ecnt; have h1 := List.length_filter_le (fun c : List Int => c.isEmpty) (rowsS sl 64); have h2 := (rows_len (sl := sl) 64).1; omega
  have hdr := hS.drop hs hsc
  have hee := ecnt_perm (rows_drop hsc 64 hs)
  rw [ecnt_snoc, ← hS.em] at hee
  refine FC_of [(0, .pointer (some ⟨C, 0, none⟩)), (1, .int .i64 (s : Int))] Try.func65 rfl Try.ntmps65 (by simp) rfl (fun R hR => ?_)
  refine V_seqJ (fun l h' => ∃ (h2 : Heap) (Qe : CK), (KB h2 C X Qe) ∧ (Qe.pos = Q.pos) ∧ (Qe.neg = Q.neg) ∧ (Qe.used = Q.used) ∧ (Qe.emp = Q.emp - if c = [] then 1 else 0) ∧ (Ext (fun x => x = C) h h2) ∧ l = [(0, .pointer (some ⟨C, 0, none⟩)), (1, .int .i64 (s : Int))] ∧ h2 = h') ?_ ?_
  · skip
    refine V_sr T.mix (by kernel_rfl) (fun K2 hK2 => ?_)
    refine S_mv rfl ?_
    refine S_mv rfl ?_
    refine S_nc rfl ?_
    first | refine S_fa0 T.f47_1 rfl ?_ | refine S_fa T.f47_1 rfl ?_
    first | refine S_ixan T.ar44 rfl rfl (by omega) ?_ | refine S_ixa1 T.ar44 rfl rfl (by omega) (by omega) ?_
    refine S_ldK T.ag43 rfl (fun K' hK' => ?_)
    simp (disch := omega) only [klP hB, klUsed hB, klEmp hB, klPos hB, klNeg hB, oP_some, Nat.add_zero]
    refine hK' _ ?_; clear hK' K'
    rw [hyc.2.1]
    refine S_mv rfl ?_
    refine S_mv rfl ?_
    refine S_nc rfl ?_
    first | refine S_fa0 T.f47_2 rfl ?_ | refine S_fa T.f47_2 rfl ?_
    first | refine S_ixan T.ar44 rfl rfl (by omega) ?_ | refine S_ixa1 T.ar44 rfl rfl (by omega) (by omega) ?_
    refine S_ldK T.ag43 rfl (fun K' hK' => ?_)
    simp (disch := omega) only [klP hB, klUsed hB, klEmp hB, klPos hB, klNeg hB, oP_some, Nat.add_zero]
    refine hK' _ ?_; clear hK' K'
    rw [hyc.2.2.1]
    refine S_nor (pM c) (nM c) _ rfl rfl rfl rfl rfl (t16 hpl) (t16 hnl) ?_
    refine S_bin rfl rfl rfl ?_
    refine S_nil (hK2 _ _ (V_keep [0, 1, 17] (by simp only [proj, lk, reduceIte, Nat.reduceEqDiff]; rfl) ?_)); clear hK2
    refine V_condp rfl (fun c60 => ?_) (fun c60 => ?_)
    · skip
      refine V_reg T.mix (by kernel_rfl) ?_
      refine S_mv rfl ?_
      refine S_nc rfl ?_
      first | refine S_fa0 T.f47_4 rfl ?_ | refine S_fa T.f47_4 rfl ?_
      refine S_ldK T.ag3 rfl (fun K' hK' => ?_)
      simp (disch := omega) only [klP hB, klUsed hB, klEmp hB, klPos hB, klNeg hB, oP_some, Nat.add_zero]
      refine hK' _ ?_; clear hK' K'
      refine S_subN (Q.emp - 1) rfl rfl (by have h7 := hyc.1.empty.1 (by omega); rw [if_pos h7] at hee; omega) (by omega) ?_
      refine S_nc rfl ?_
      first | refine S_fa0 T.f47_4 rfl ?_ | refine S_fa T.f47_4 rfl ?_
      refine S_st T.sz3 rfl rfl rfl rfl (by simp (disch := omega) only [kok hB]) ?_
      generalize hh : putH _ _ _ = h1
      have hBh1 : KB h1 C X { Q with emp := Q.emp - 1 } := by rw [← hh]; exact ksEmp hB (Q.emp - 1)
      have hEh1 : Ext (fun x => x = C) h h1 := by rw [← hh]; exact Ext.put _ _ rfl
      clear hh
      replace hE := hE.trans hEh1
      clear hB
      have hB := hBh1
      refine S_nilk [0, 1] (by simp only [proj, lk, reduceIte, Nat.reduceEqDiff]; rfl) ?_
      exact ⟨h1, { Q with emp := Q.emp - 1 }, hB, rfl, rfl, rfl, by rw [if_pos (hyc.1.empty.1 (by omega))], hE, rfl, rfl⟩
    · skip
      refine V_skipk [0, 1] (by simp only [proj, lk, reduceIte, Nat.reduceEqDiff]; rfl) ?_
      exact ⟨h, Q, hB, rfl, rfl, rfl, by rw [if_neg (fun e => c60 (by rw [hyc.1.empty.2 e]; rfl))]; rfl, hE, rfl, rfl⟩
  rintro l h' ⟨h2, Qe, hBe, hQp, hQn, hQu, hQe, hE2, rfl, rfl⟩
  clear hB hE
  have hB := hBe
  have hE := hE2
  refine V_sr T.mix (by kernel_rfl) (fun K3 hK3 => ?_)
  refine S_mv rfl ?_
  refine S_mv rfl ?_
  refine S_nc rfl ?_
  first | refine S_fa0 T.f47_1 rfl ?_ | refine S_fa T.f47_1 rfl ?_
  first | refine S_ixan T.ar44 rfl rfl (by omega) ?_ | refine S_ixa1 T.ar44 rfl rfl (by omega) (by omega) ?_
  refine S_st T.sz43 rfl rfl rfl rfl (by simp (disch := omega) only [kok hB]) ?_
  generalize hh : putH _ _ _ = h3
  have hBh3 : KB h3 C X { Qe with pos := upn Qe.pos s 0 } := by rw [← hh]; exact ksPos hB s 0 hs
  have hEh3 : Ext (fun x => x = C) h2 h3 := by rw [← hh]; exact Ext.put _ _ rfl
  clear hh
  replace hE := hE.trans hEh3
  clear hB
  have hB := hBh3
  refine S_nil (hK3 _ _ (V_keep [0, 1] (by simp only [proj, lk, reduceIte, Nat.reduceEqDiff]; rfl) ?_)); clear hK3
  refine V_sr T.mix (by kernel_rfl) (fun K4 hK4 => ?_)
  refine S_mv rfl ?_
  refine S_mv rfl ?_
  refine S_nc rfl ?_
  first | refine S_fa0 T.f47_2 rfl ?_ | refine S_fa T.f47_2 rfl ?_
  first | refine S_ixan T.ar44 rfl rfl (by omega) ?_ | refine S_ixa1 T.ar44 rfl rfl (by omega) (by omega) ?_
  refine S_st T.sz43 rfl rfl rfl rfl (by simp (disch := omega) only [kok hB]) ?_
  generalize hh : putH _ _ _ = h4
  have hBh4 : KB h4 C X { Qe with pos := upn Qe.pos s 0, neg := upn Qe.neg s 0 } := by rw [← hh]; exact ksNeg hB s 0 hs
  have hEh4 : Ext (fun x => x = C) h3 h4 := by rw [← hh]; exact Ext.put _ _ rfl
  clear hh
  replace hE := hE.trans hEh4
  clear hB
  have hB := hBh4
  refine S_nil (hK4 _ _ (V_keep [0, 1] (by simp only [proj, lk, reduceIte, Nat.reduceEqDiff]; rfl) ?_)); clear hK4
  refine V_regM #[0, 1, 2, 3, 4, 5, 6, 7, 8, 9, 10] [0, 1, 2, 3, 4, 5] 6 [7, 8, 9, 10] T.mix (by kernel_rfl) rfl ⟨rfl, rfl⟩ ?_
  refine S_mv rfl ?_
  refine S_mv rfl ?_
  refine S_nc rfl ?_
  first | refine S_fa0 T.f47_3 rfl ?_ | refine S_fa T.f47_3 rfl ?_
  refine S_ldK T.ag45 rfl (fun K' hK' => ?_)
  simp (disch := omega) only [klP hB, klUsed hB, klEmp hB, klPos hB, klNeg hB, oP_some, Nat.add_zero]
  refine hK' _ ?_; clear hK' K'
  refine S_mv rfl ?_
  refine S_nil ?_
  refine SM_call T.hb16 rfl ?_
  refine FC.mono (slotbit_spec h4 s hs) ?_
  rintro v' h' ⟨rfl, rfl⟩
  first | refine ⟨Grows.refl _, ?_⟩ | refine ⟨Grows.of_ext (by assumption), ?_⟩
  refine S_nandn Qe.used (2 ^ s) rfl rfl rfl rfl rfl (by rw [hQu]; exact hlt) h2s ?_
  refine S_nc rfl ?_
  first | refine S_fa0 T.f47_3 rfl ?_ | refine S_fa T.f47_3 rfl ?_
  refine S_st T.sz45 rfl rfl rfl rfl (by simp (disch := omega) only [kok hB]) ?_
  generalize hh : putH _ _ _ = h5
  have hBh5 : KB h5 C X { Qe with pos := upn Qe.pos s 0, neg := upn Qe.neg s 0, used := wo Qe.used (2 ^ s) } := by rw [← hh]; exact ksUsed hB (wo Qe.used (2 ^ s))
  have hEh5 : Ext (fun x => x = C) h4 h5 := by rw [← hh]; exact Ext.put _ _ rfl
  clear hh
  replace hE := hE.trans hEh5
  clear hB
  have hB := hBh5
  refine S_nilk [] (by simp only [proj, lk, reduceIte, Nat.reduceEqDiff]; rfl) ?_
  -- end
  refine hR _ _ (ret0 rfl ?_)
  refine ⟨rfl, ⟨_, hB, ?_⟩, hE⟩
  rw [← hQp, ← hQn, ← hQu, ← hQe] at hdr
  exact hdr
set_option maxHeartbeats 400000 in
theorem wipe_spec (h : Heap) (C X : Nat) (sl : Nat → Option (List Int)) (ks : KS h C X sl) :
    FC Try.prog 31 (#[.pointer (some ⟨C, 0, none⟩)] : Array Value) h fun rv h' => rv = .tuple #[] ∧ KS h' C X (fun _ => none) ∧ Ext (fun x => x = C) h h' := by
  obtain ⟨Q, hB, hS⟩ := ks
  have hlt := hS.lt
  refine FC_of [(0, .pointer (some ⟨C, 0, none⟩))] Try.func31 rfl Try.ntmps31 (by simp) rfl (fun R hR => ?_)
  refine V_seq (fun K1 hK1 => ?_)
  refine V_sr T.mix (by kernel_rfl) (fun K2 hK2 => ?_)
  refine S_as rfl ?_
  refine S_nil (hK2 _ _ (V_keep [0, 2] (by simp only [proj, lk, reduceIte, Nat.reduceEqDiff]; rfl) ?_)); clear hK2
  refine V_block ?_
  refine V_loop (fun m l h' => ∃ (s : Nat) (hk : Heap) (Qk : CK), (s ≤ 64) ∧ (KB hk C X Qk) ∧ (∀ j, j < 64 → (j < s ∧ Qk.pos j = 0 ∧ Qk.neg j = 0) ∨ (s ≤ j ∧ Qk.pos j = Q.pos j ∧ Qk.neg j = Q.neg j)) ∧ (Qk.used = Q.used) ∧ (Ext (fun x => x = C) h hk) ∧ m = 64 - s ∧ l = [(0, .pointer (some ⟨C, 0, none⟩)), (2, .int .i64 (s : Int))] ∧ hk = h') _ ⟨0, h, Q, by omega, hB, fun j hj => .inr ⟨by omega, rfl, rfl⟩, rfl, Ext.refl _ _, rfl, rfl, rfl⟩ ?_
  rintro m l h' ⟨s, hk, Qk, hs, hBk, h1k, huk, hEk, rfl, rfl, rfl⟩ K3 hK3
  clear hB
  have hB := hBk
  have hE := hEk
  refine V_seq (fun K4 hK4 => ?_)
  refine V_sr T.mix (by kernel_rfl) (fun K5 hK5 => ?_)
  refine S_mv rfl ?_
  refine S_bin rfl rfl rfl ?_
  refine S_nil (hK5 _ _ (V_keep [0, 2, 4] (by simp only [proj, lk, reduceIte, Nat.reduceEqDiff]; rfl) ?_)); clear hK5
  refine V_condp rfl (fun c15 => ?_) (fun c15 => ?_)
  · skip
    have h2s := two64 (s := s) (by omega)
    have hlt2 : Qk.used < 18446744073709551616 := by rw [huk]; exact hlt
    refine V_skipk [0, 2] (by simp only [proj, lk, reduceIte, Nat.reduceEqDiff]; rfl) ?_
    refine hK4 _ _ ?_; clear hK4
    refine V_seq (fun K6 hK6 => ?_)
    refine V_block ?_
    refine V_srM #[0, 1, 2, 3, 4, 5, 6, 7] [0, 1, 2, 3, 4] 5 [6, 7] T.mix (by kernel_rfl) rfl ⟨rfl, rfl⟩ (fun K7 hK7 => ?_)
    refine S_mv rfl ?_
    refine S_nc rfl ?_
    first | refine S_fa0 T.f47_3 rfl ?_ | refine S_fa T.f47_3 rfl ?_
    refine S_ldK T.ag45 rfl (fun K' hK' => ?_)
    simp (disch := omega) only [klP hB, klUsed hB, klEmp hB, klPos hB, klNeg hB, oP_some, Nat.add_zero]
    refine hK' _ ?_; clear hK' K'
    refine S_mv rfl ?_
    refine S_nil ?_
    refine SM_call T.hb16 rfl ?_
    refine FC.mono (slotbit_spec hk s (by omega)) ?_
    rintro v' h' ⟨rfl, rfl⟩
    first | refine ⟨Grows.refl _, ?_⟩ | refine ⟨Grows.of_ext (by assumption), ?_⟩
    first | refine S_uand rfl rfl rfl (by first | omega | (simp only [IntKind.bits]; omega)) (by first | omega | (simp only [IntKind.bits]; omega)) ?_ | refine S_bin rfl rfl rfl ?_
    refine S_bin rfl rfl rfl ?_
    refine S_nil (hK7 _ _ (V_keep [0, 2, 14] (by simp only [proj, lk, reduceIte, Nat.reduceEqDiff]; rfl) ?_)); clear hK7
    refine V_condp rfl (fun c16 => ?_) (fun c16 => ?_)
    · skip
      refine V_sr T.mix (by kernel_rfl) (fun K8 hK8 => ?_)
      refine S_mv rfl ?_
      refine S_mv rfl ?_
      refine S_nc rfl ?_
      first | refine S_fa0 T.f47_1 rfl ?_ | refine S_fa T.f47_1 rfl ?_
      first | refine S_ixan T.ar44 rfl rfl (by omega) ?_ | refine S_ixa1 T.ar44 rfl rfl (by omega) (by omega) ?_
      refine S_st T.sz43 rfl rfl rfl rfl (by simp (disch := omega) only [kok hB]) ?_
      generalize hh : putH _ _ _ = h1
      have hBh1 : KB h1 C X { Qk with pos := upn Qk.pos s 0 } := by rw [← hh]; exact ksPos hB s 0 (by omega)
      have hEh1 : Ext (fun x => x = C) hk h1 := by rw [← hh]; exact Ext.put _ _ rfl
      clear hh
      replace hE := hE.trans hEh1
      clear hB
      have hB := hBh1
      refine S_nil (hK8 _ _ (V_keep [0, 2] (by simp only [proj, lk, reduceIte, Nat.reduceEqDiff]; rfl) ?_)); clear hK8
      refine V_reg T.mix (by kernel_rfl) ?_
      refine S_mv rfl ?_
      refine S_mv rfl ?_
      refine S_nc rfl ?_
      first | refine S_fa0 T.f47_2 rfl ?_ | refine S_fa T.f47_2 rfl ?_
      first | refine S_ixan T.ar44 rfl rfl (by omega) ?_ | refine S_ixa1 T.ar44 rfl rfl (by omega) (by omega) ?_
      refine S_st T.sz43 rfl rfl rfl rfl (by simp (disch := omega) only [kok hB]) ?_
      generalize hh : putH _ _ _ = h2
      have hBh2 : KB h2 C X { Qk with pos := upn Qk.pos s 0, neg := upn Qk.neg s 0 } := by rw [← hh]; exact ksNeg hB s 0 (by omega)
      have hEh2 : Ext (fun x => x = C) h1 h2 := by rw [← hh]; exact Ext.put _ _ rfl
      clear hh
      replace hE := hE.trans hEh2
      clear hB
      have hB := hBh2
      refine S_nilk [0, 2] (by simp only [proj, lk, reduceIte, Nat.reduceEqDiff]; rfl) ?_
      refine hK6 _ _ ?_; clear hK6
      refine V_reg T.mix (by kernel_rfl) ?_
      refine S_mv rfl ?_
      first | refine S_add rfl rfl (by omega) (by omega) ?_ | refine S_bin rfl rfl rfl ?_
      refine S_as rfl ?_
      refine S_nilk [0, 2] (by simp only [proj, lk, reduceIte, Nat.reduceEqDiff]; rfl) ?_
      exact hK3 _ _ ⟨_, by omega, s + 1, h2, { Qk with pos := upn Qk.pos s 0, neg := upn Qk.neg s 0 }, by omega, hB, fun j hj => by by_cases e : j = s; (subst e; exact .inl ⟨by omega, upn_self _ _ _, upn_self _ _ _⟩); (simp only [upn_ne e]; have h9 := h1k j hj; omega), huk, hE, rfl, rfl, rfl⟩
    · skip
      refine V_skipk [0, 2] (by simp only [proj, lk, reduceIte, Nat.reduceEqDiff]; rfl) ?_
      refine hK6 _ _ ?_; clear hK6
      refine V_reg T.mix (by kernel_rfl) ?_
      refine S_mv rfl ?_
      first | refine S_add rfl rfl (by omega) (by omega) ?_ | refine S_bin rfl rfl rfl ?_
      refine S_as rfl ?_
      refine S_nilk [0, 2] (by simp only [proj, lk, reduceIte, Nat.reduceEqDiff]; rfl) ?_
      exact hK3 _ _ ⟨_, by omega, s + 1, hk, Qk, by omega, hB, fun j hj => by have h9 := h1k j hj; by_cases e : j = s; (subst e; have h8 := hS.no j hj ((hS.free hj).1 (by rw [← huk]; omega)); omega); (omega), huk, hE, rfl, rfl, rfl⟩
  · skip
    refine V_exitk [0] rfl (by simp only [proj, lk, reduceIte, Nat.reduceEqDiff]; rfl) ?_
    refine hK1 _ _ ?_; clear hK1
    refine V_sr T.mix (by kernel_rfl) (fun K9 hK9 => ?_)
    refine S_mv rfl ?_
    refine S_nc rfl ?_
    first | refine S_fa0 T.f47_3 rfl ?_ | refine S_fa T.f47_3 rfl ?_
    refine S_st T.sz45 rfl rfl rfl rfl (by simp (disch := omega) only [kok hB]) ?_
    generalize hh : putH _ _ _ = h1
    have hBh1 : KB h1 C X { Qk with used := 0 } := by rw [← hh]; exact ksUsed hB 0
    have hEh1 : Ext (fun x => x = C) hk h1 := by rw [← hh]; exact Ext.put _ _ rfl
    clear hh
    replace hE := hE.trans hEh1
    clear hB
    have hB := hBh1
    refine S_nil (hK9 _ _ (V_keep [0] (by simp only [proj, lk, reduceIte, Nat.reduceEqDiff]; rfl) ?_)); clear hK9
    refine V_reg T.mix (by kernel_rfl) ?_
    refine S_mv rfl ?_
    refine S_nc rfl ?_
    first | refine S_fa0 T.f47_4 rfl ?_ | refine S_fa T.f47_4 rfl ?_
    refine S_st T.sz3 rfl rfl rfl rfl (by simp (disch := omega) only [kok hB]) ?_
    generalize hh : putH _ _ _ = h2
    have hBh2 : KB h2 C X { Qk with used := 0, emp := 0 } := by rw [← hh]; exact ksEmp hB 0
    have hEh2 : Ext (fun x => x = C) h1 h2 := by rw [← hh]; exact Ext.put _ _ rfl
    clear hh
    replace hE := hE.trans hEh2
    clear hB
    have hB := hBh2
    refine S_nilk [] (by simp only [proj, lk, reduceIte, Nat.reduceEqDiff]; rfl) ?_
    -- end
    refine hR _ _ (ret0 rfl ?_)
    exact ⟨rfl, ⟨_, hB, ⟨fun i hi _ => by have h9 := h1k i hi; simp only []; exact ⟨by omega, by omega, Nat.zero_testBit _⟩, fun i hi c e => (by cases e), (by simp), (by show 0 = ecnt (rowsS (fun _ => none) 64); decide +kernel)⟩⟩, hE⟩
end Go.Proofs.Qxb6500398a
