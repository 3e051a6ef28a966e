import Derived.Test.Qxb6500401aGreatCa
set_option linter.unusedVariables false
set_option linter.unusedSimpArgs false
namespace Go.Proofs.Qxb6500401aGreat.ChkW
open Go.Eng Go.Cnf

def OWNED (h h' : Heap) (a a' : Option Addr) : Prop := Ext (fun b => blkA a = some b) h h' ∧ ∀ b, blkA a' = some b → blkA a = some b ∨ h.size ≤ b
theorem OWNED.refl (h : Heap) (a : Option Addr) : OWNED h h a a := ⟨Ext.refl _ _, fun _ h => .inl h⟩
theorem OWNED.trans {h h1 h2 : Heap} {a b c : Option Addr} (x : OWNED h h1 a b) (y : OWNED h1 h2 b c) : OWNED h h2 a c := by
  refine ⟨x.1.step y.1 (fun k hk e => ?_), fun k hk => ?_⟩
  · rcases x.2 k e with e | e; exact e; omega
  · rcases y.2 k hk with e | e
    · exact x.2 k e
    · have := x.1.1; exact .inr (by omega)
theorem tdr (n : Int) : (n < 0 → n.tmod 10 = -((-n) % 10) ∧ n.tdiv 10 = -((-n) / 10)) ∧ (0 ≤ n → n.tmod 10 = n % 10 ∧ n.tdiv 10 = n / 10) := by
  constructor
  · intro h
    obtain ⟨m, rfl⟩ : ∃ m : Int, n = -m := ⟨-n, by omega⟩
    rw [Int.neg_tmod, Int.neg_tdiv, Int.tmod_eq_emod_of_nonneg (by omega), Int.tdiv_eq_ediv_of_nonneg (by omega)]; simp
  · intro h
    rw [Int.tmod_eq_emod_of_nonneg h, Int.tdiv_eq_ediv_of_nonneg h]; simp
theorem sliceV_arlo {P : Program} {t : TypeId} {n b : Nat} {k : IntKind} {p : Int} (hz : arS P t = some (n, 1)) (h0 : 0 ≤ p) (h1 : p < n) : sliceV P t (.pointer (some ⟨b, 0, none⟩)) (some (.int k p)) none = some (.slice (some ⟨b, p.toNat, none⟩) (n - p.toNat) (n - p.toNat)) := by
  simp only [sliceV, hz, loV]
  rw [if_pos ⟨h0, by omega, by omega⟩, if_neg (by omega), add_mk]
  simp
theorem srcV_u8o {h : Heap} {b n i m c : Nat} {g : Nat → Int} {t : TypeId} (hb : B h b (arr n fun j => .int .u8 (g j)) t) (hi : i + m ≤ n) : srcV h 1 m (.slice (some ⟨b, i, none⟩) m c) = some (u8s ((List.range' i m).map g)) := by
  simp only [srcV, Nat.mul_one]
  rw [cellsH_blk (o := i) hb m 0 (by rw [arr_size]; omega)]
  congr 1
  refine List.ext_getElem? fun j => ?_
  rw [List.getElem?_take]
  by_cases hj : j < m
  · rw [if_pos hj, List.getElem?_drop, Array.getElem?_toList, Nat.add_zero, arr_get (by omega)]
    simp [u8s, hj]
  · rw [if_neg hj]; simp [u8s, hj]
def itG (x : Int) (k j : Nat) : Int := if j = 23 ∧ 1 ≤ k then ((48 + x.natAbs % 10 : Nat) : Int) else if j = 22 ∧ 2 ≤ k then ((48 + x.natAbs / 10 : Nat) : Int) else 0
theorem itG_put {x e : Int} {k j i : Nat} (hk : k ≤ 1) (he : e = if k = 0 then ((48 + x.natAbs % 10 : Nat) : Int) else ((48 + x.natAbs / 10 : Nat) : Int)) (hi : i = 23 - k) : (if j = i then Value.int .u8 e else .int .u8 (itG x k j)) = .int .u8 (itG x (k + 1) j) := by
  have : k = 0 ∨ k = 1 := by omega
  unfold itG
  rcases this with rfl | rfl
  · by_cases hj : j = 23 <;> simp_all
  · by_cases hj : j = 22 <;> by_cases hj2 : j = 23 <;> simp_all
theorem it_rng1 (g : Nat → Int) (i : Nat) : (List.range' i 1).map g = [g i] := rfl
theorem it_rng2 (g : Nat → Int) (i : Nat) : (List.range' i 2).map g = [g i, g (i + 1)] := rfl
theorem it_rng3 (g : Nat → Int) (i : Nat) : (List.range' i 3).map g = [g i, g (i + 1), g (i + 2)] := rfl
theorem z24 : (#[.int .u8 0, .int .u8 0, .int .u8 0, .int .u8 0, .int .u8 0, .int .u8 0, .int .u8 0, .int .u8 0, .int .u8 0, .int .u8 0, .int .u8 0, .int .u8 0, .int .u8 0, .int .u8 0, .int .u8 0, .int .u8 0, .int .u8 0, .int .u8 0, .int .u8 0, .int .u8 0, .int .u8 0, .int .u8 0, .int .u8 0, .int .u8 0] : Array Value) = arr 24 fun _ => .int .u8 0 := by kernel_rfl
def itoaB (x : Int) : List Nat := (if x < 0 then [45] else []) ++ (if 10 ≤ x.natAbs then [48 + x.natAbs / 10] else []) ++ [48 + x.natAbs % 10]
set_option maxHeartbeats 400000 in
theorem itoa_spec (h : Heap) (x : Int) (hx0 : x ≠ 0) (hx1 : -12 ≤ x) (hx2 : x ≤ 12) :
    FC Tryz.prog 106 (#[.int .i64 x] : Array Value) h fun v h' => v = .string (textOf (itoaB x)) ∧ Ext (fun _ => False) h h' := by
  refine FC_of [(0, .int .i64 x)] Tryz.func106 rfl Tryz.ntmps106 (by simp) rfl (fun R hR => ?_)
  refine V_sr T.mix (by kernel_rfl) (fun K1 hK1 => ?_)
  refine S_as rfl ?_
  refine S_nil (hK1 _ _ (V_keep [0] (by simp only [proj, lk, reduceIte, Nat.reduceEqDiff]; rfl) ?_)); clear hK1
  refine V_seq (fun K2 hK2 => ?_)
  refine V_sr T.mix (by kernel_rfl) (fun K3 hK3 => ?_)
  refine S_mv rfl ?_
  refine S_bin rfl rfl rfl ?_
  refine S_nil (hK3 _ _ (V_keep [0, 8] (by simp only [proj, lk, reduceIte, Nat.reduceEqDiff]; rfl) ?_)); clear hK3
  refine V_condp rfl (fun c116 => ?_) (fun c116 => ?_)
  · skip
    exfalso; omega
  · skip
    refine V_skipk [0] (by simp only [proj, lk, reduceIte, Nat.reduceEqDiff]; rfl) ?_
    refine hK2 _ _ ?_; clear hK2
    refine V_sr T.mix (by kernel_rfl) (fun K4 hK4 => ?_)
    refine S_mv rfl ?_
    refine S_bin rfl rfl rfl ?_
    refine S_as rfl ?_
    refine S_nil (hK4 _ _ (V_keep [0, 3] (by simp only [proj, lk, reduceIte, Nat.reduceEqDiff]; rfl) ?_)); clear hK4
    refine V_sr T.mix (by kernel_rfl) (fun K5 hK5 => ?_)
    refine S_allocA T.z170 ?_
    generalize hh : Array.push h _ = h1
    have hB1 : B h1 h.size (arr 24 fun j => .int .u8 (itG x (0) j)) 170 := by rw [← hh]; exact (B.new h _ 170).cong (z24.trans (arr_ext fun j _ => by simp [itG]))
    have hE1 : Ext (fun _ => False) h h1 := by rw [← hh]; exact Ext.push _ _ _
    clear hh
    refine S_nil (hK5 _ _ (V_keep [0, 3, 4] (by simp only [proj, lk, reduceIte, Nat.reduceEqDiff]; rfl) ?_)); clear hK5
    refine V_sr T.mix (by kernel_rfl) (fun K6 hK6 => ?_)
    refine S_as rfl ?_
    refine S_nil (hK6 _ _ (V_keep [0, 3, 4, 5] (by simp only [proj, lk, reduceIte, Nat.reduceEqDiff]; rfl) ?_)); clear hK6
    refine V_seq (fun K7 hK7 => ?_)
    refine V_block ?_
    refine V_loop (fun m l h' => ∃ (k : Nat) (n : Int) (hk : Heap), ((k = 0 ∧ n = x) ∨ (k = 1 ∧ n = x.tdiv 10) ∨ (k = 2 ∧ n = 0 ∧ 10 ≤ x.natAbs)) ∧ (B hk h.size (arr 24 fun j => .int .u8 (itG x k j)) 170) ∧ (Ext (fun _ => False) h hk) ∧ m = 2 - k + 0 ∧ l = [(0, .int .i64 n), (3, .bool (decide (x < 0))), (4, .pointer (some ⟨h.size, 0, none⟩)), (5, .int .i64 (24 - (k : Int)))] ∧ hk = h') _ ⟨0, x, h1, by omega, hB1, hE1, rfl, rfl, rfl⟩ ?_
    rintro m l h' ⟨k, n, hk, hkn, hBk, hEk, rfl, rfl, rfl⟩ K8 hK8
    refine V_seq (fun K9 hK9 => ?_)
    refine V_sr T.mix (by kernel_rfl) (fun K10 hK10 => ?_)
    refine S_mv rfl ?_
    refine S_bin rfl rfl rfl ?_
    refine S_nil (hK10 _ _ (V_keep [0, 3, 4, 5, 12] (by simp only [proj, lk, reduceIte, Nat.reduceEqDiff]; rfl) ?_)); clear hK10
    refine V_condp rfl (fun c122 => ?_) (fun c122 => ?_)
    · skip
      have ht := tdr n
      have htx := tdr x
      refine V_skipk [0, 3, 4, 5] (by simp only [proj, lk, reduceIte, Nat.reduceEqDiff]; rfl) ?_
      refine hK9 _ _ ?_; clear hK9
      refine V_block ?_
      refine V_sr T.mix (by kernel_rfl) (fun K11 hK11 => ?_)
      refine S_mv rfl ?_
      refine S_bin rfl rfl rfl ?_
      generalize hd : Int.tmod n 10 = dd
      refine S_as rfl ?_
      refine S_nil (hK11 _ _ (V_keep [0, 3, 4, 5, 6] (by simp only [proj, lk, reduceIte, Nat.reduceEqDiff]; rfl) ?_)); clear hK11
      refine V_seq (fun K12 hK12 => ?_)
      refine V_sr T.mix (by kernel_rfl) (fun K13 hK13 => ?_)
      refine S_mv rfl ?_
      refine S_bin rfl rfl rfl ?_
      refine S_nil (hK13 _ _ (V_keep [0, 3, 4, 5, 6, 16] (by simp only [proj, lk, reduceIte, Nat.reduceEqDiff]; rfl) ?_)); clear hK13
      refine V_condp rfl (fun c124 => ?_) (fun c124 => ?_)
      · skip
        refine V_reg T.mix (by kernel_rfl) ?_
        refine S_mv rfl ?_
        first | refine S_neg rfl (by omega) (by omega) ?_ | refine S_un rfl rfl ?_
        refine S_as rfl ?_
        refine S_nilk [0, 3, 4, 5, 6] (by simp only [proj, lk, reduceIte, Nat.reduceEqDiff]; rfl) ?_
        refine hK12 _ _ ?_; clear hK12
        refine V_sr T.mix (by kernel_rfl) (fun K14 hK14 => ?_)
        refine S_mv rfl ?_
        first | refine S_sub rfl rfl (by omega) (by omega) ?_ | refine S_bin rfl rfl rfl ?_
        refine S_as rfl ?_
        refine S_nil (hK14 _ _ (V_keep [0, 3, 4, 5, 6] (by simp only [proj, lk, reduceIte, Nat.reduceEqDiff]; rfl) ?_)); clear hK14
        refine V_sr T.mix (by kernel_rfl) (fun K15 hK15 => ?_)
        refine S_mv rfl ?_
        refine S_mv rfl ?_
        first | refine S_add rfl rfl (by omega) (by omega) ?_ | refine S_bin rfl rfl rfl ?_
        first | refine S_cvb T.us3 T.in5 rfl (by omega) (by omega) ?_ | refine S_cv T.us3 T.in5 rfl ?_
        first | refine S_ixan T.ar170 rfl rfl (by omega) ?_ | refine S_ixa1 T.ar170 rfl rfl (by omega) (by omega) ?_
        refine S_st T.sz5 rfl rfl rfl rfl (by simp (disch := omega) only [hBk.okA]) ?_
        generalize hh : putH _ _ _ = h2
        have hB2 : B h2 h.size (arr 24 fun j => .int .u8 (itG x (k + 1) j)) 170 := by rw [← hh]; exact (hBk.putA _ _).cong (arr_ext fun j _ => itG_put (by omega) (by by_cases hk0 : k = 0; (rw [if_pos hk0]; omega); (rw [if_neg hk0]; omega)) (by omega))
        have hE2 : Ext (fun _ => False) h h2 := by rw [← hh]; exact hEk.putn (Nat.le_refl _)
        clear hh
        refine S_nil (hK15 _ _ (V_keep [0, 3, 4, 5] (by simp only [proj, lk, reduceIte, Nat.reduceEqDiff]; rfl) ?_)); clear hK15
        refine V_reg T.mix (by kernel_rfl) ?_
        refine S_mv rfl ?_
        refine S_bin rfl rfl rfl ?_
        rw [wrap_i64 (by omega) (by omega)]
        refine S_as rfl ?_
        refine S_nilk [0, 3, 4, 5] (by simp only [proj, lk, reduceIte, Nat.reduceEqDiff]; rfl) ?_
        exact hK8 _ _ ⟨_, by omega, k + 1, n.tdiv 10, h2, by omega, hB2, hE2, rfl, by rw [show (24 : Int) - (k : Int) - 1 = 24 - ((k + 1 : Nat) : Int) by omega], rfl⟩
      · skip
        refine V_skipk [0, 3, 4, 5, 6] (by simp only [proj, lk, reduceIte, Nat.reduceEqDiff]; rfl) ?_
        refine hK12 _ _ ?_; clear hK12
        refine V_sr T.mix (by kernel_rfl) (fun K16 hK16 => ?_)
        refine S_mv rfl ?_
        first | refine S_sub rfl rfl (by omega) (by omega) ?_ | refine S_bin rfl rfl rfl ?_
        refine S_as rfl ?_
        refine S_nil (hK16 _ _ (V_keep [0, 3, 4, 5, 6] (by simp only [proj, lk, reduceIte, Nat.reduceEqDiff]; rfl) ?_)); clear hK16
        refine V_sr T.mix (by kernel_rfl) (fun K17 hK17 => ?_)
        refine S_mv rfl ?_
        refine S_mv rfl ?_
        first | refine S_add rfl rfl (by omega) (by omega) ?_ | refine S_bin rfl rfl rfl ?_
        first | refine S_cvb T.us3 T.in5 rfl (by omega) (by omega) ?_ | refine S_cv T.us3 T.in5 rfl ?_
        first | refine S_ixan T.ar170 rfl rfl (by omega) ?_ | refine S_ixa1 T.ar170 rfl rfl (by omega) (by omega) ?_
        refine S_st T.sz5 rfl rfl rfl rfl (by simp (disch := omega) only [hBk.okA]) ?_
        generalize hh : putH _ _ _ = h2
        have hB2 : B h2 h.size (arr 24 fun j => .int .u8 (itG x (k + 1) j)) 170 := by rw [← hh]; exact (hBk.putA _ _).cong (arr_ext fun j _ => itG_put (by omega) (by by_cases hk0 : k = 0; (rw [if_pos hk0]; omega); (rw [if_neg hk0]; omega)) (by omega))
        have hE2 : Ext (fun _ => False) h h2 := by rw [← hh]; exact hEk.putn (Nat.le_refl _)
        clear hh
        refine S_nil (hK17 _ _ (V_keep [0, 3, 4, 5] (by simp only [proj, lk, reduceIte, Nat.reduceEqDiff]; rfl) ?_)); clear hK17
        refine V_reg T.mix (by kernel_rfl) ?_
        refine S_mv rfl ?_
        refine S_bin rfl rfl rfl ?_
        rw [wrap_i64 (by omega) (by omega)]
        refine S_as rfl ?_
        refine S_nilk [0, 3, 4, 5] (by simp only [proj, lk, reduceIte, Nat.reduceEqDiff]; rfl) ?_
        exact hK8 _ _ ⟨_, by omega, k + 1, n.tdiv 10, h2, by omega, hB2, hE2, rfl, by rw [show (24 : Int) - (k : Int) - 1 = 24 - ((k + 1 : Nat) : Int) by omega], rfl⟩
    · skip
      have ht := tdr x
      have hk12 : (k = 1 ∧ x.natAbs < 10) ∨ (k = 2 ∧ 10 ≤ x.natAbs) := by omega
      refine V_exitk [3, 4, 5] rfl (by simp only [proj, lk, reduceIte, Nat.reduceEqDiff]; rfl) ?_
      refine hK7 _ _ ?_; clear hK7
      refine V_seq (fun K18 hK18 => ?_)
      refine V_sr T.mix (by kernel_rfl) (fun K19 hK19 => ?_)
      refine S_mv rfl ?_
      refine S_nil (hK19 _ _ (V_keep [4, 5, 28] (by simp only [proj, lk, reduceIte, Nat.reduceEqDiff]; rfl) ?_)); clear hK19
      refine V_condp rfl (fun c131 => ?_) (fun c131 => ?_)
      · skip
        refine V_sr T.mix (by kernel_rfl) (fun K20 hK20 => ?_)
        refine S_mv rfl ?_
        first | refine S_sub rfl rfl (by omega) (by omega) ?_ | refine S_bin rfl rfl rfl ?_
        refine S_as rfl ?_
        refine S_nil (hK20 _ _ (V_keep [4, 5] (by simp only [proj, lk, reduceIte, Nat.reduceEqDiff]; rfl) ?_)); clear hK20
        refine V_reg T.mix (by kernel_rfl) ?_
        refine S_mv rfl ?_
        first | refine S_ixan T.ar170 rfl rfl (by omega) ?_ | refine S_ixa1 T.ar170 rfl rfl (by omega) (by omega) ?_
        refine S_st T.sz5 rfl rfl rfl rfl (by simp (disch := omega) only [hBk.okA]) ?_
        generalize hh : putH _ _ _ = h2
        have hB2 : B h2 h.size (arr 24 fun j => .int .u8 (if j = 23 - k then 45 else itG x k j)) 170 := by rw [← hh]; exact (hBk.putA _ _).cong (arr_ext fun j _ => by rw [show 0 + (24 - (k : Int) - 1).toNat = 23 - k by omega]; split <;> rfl)
        have hE2 : Ext (fun _ => False) h h2 := by rw [← hh]; exact hEk.putn (Nat.le_refl _)
        clear hh
        replace hBk := hB2
        replace hEk := hE2
        refine S_nilk [4, 5] (by simp only [proj, lk, reduceIte, Nat.reduceEqDiff]; rfl) ?_
        refine hK18 _ _ ?_; clear hK18
        refine V_sr T.mix (by kernel_rfl) (fun K21 hK21 => ?_)
        refine S_mv rfl ?_
        refine S_sl rfl rfl rfl (sliceV_arlo T.ar170 (by omega) (by omega)) ?_
        refine S_str T.kd61 T.kd9 T.in9 rfl (srcV_u8o hBk (by omega)) ?_
        refine S_as rfl ?_
        refine S_nil (hK21 _ _ (V_keep [2] (by simp only [proj, lk, reduceIte, Nat.reduceEqDiff]; rfl) ?_)); clear hK21
        refine V_ret ?_
        refine hR _ _ (ret1 rfl rfl ?_)
        refine ⟨?_, hEk⟩
        rcases hk12 with ⟨rfl, h10⟩ | ⟨rfl, h10⟩
        · rw [show (24 - (24 - ((1 : Nat) : Int) - 1).toNat) = 2 by omega, show (24 - ((1 : Nat) : Int) - 1).toNat = 22 by omega, it_rng2, show itoaB x = [45, 48 + x.natAbs % 10] by unfold itoaB; rw [if_pos c131, if_neg (by omega)]; rfl]; rfl
        · rw [show (24 - (24 - ((2 : Nat) : Int) - 1).toNat) = 3 by omega, show (24 - ((2 : Nat) : Int) - 1).toNat = 21 by omega, it_rng3, show itoaB x = [45, 48 + x.natAbs / 10, 48 + x.natAbs % 10] by unfold itoaB; rw [if_pos c131, if_pos (by omega)]; rfl]; rfl
      · skip
        refine V_skipk [4, 5] (by simp only [proj, lk, reduceIte, Nat.reduceEqDiff]; rfl) ?_
        refine hK18 _ _ ?_; clear hK18
        refine V_sr T.mix (by kernel_rfl) (fun K22 hK22 => ?_)
        refine S_mv rfl ?_
        refine S_sl rfl rfl rfl (sliceV_arlo T.ar170 (by omega) (by omega)) ?_
        refine S_str T.kd61 T.kd9 T.in9 rfl (srcV_u8o hBk (by omega)) ?_
        refine S_as rfl ?_
        refine S_nil (hK22 _ _ (V_keep [2] (by simp only [proj, lk, reduceIte, Nat.reduceEqDiff]; rfl) ?_)); clear hK22
        refine V_ret ?_
        refine hR _ _ (ret1 rfl rfl ?_)
        refine ⟨?_, hEk⟩
        rcases hk12 with ⟨rfl, h10⟩ | ⟨rfl, h10⟩
        · rw [show (24 - (24 - ((1 : Nat) : Int)).toNat) = 1 by omega, show (24 - ((1 : Nat) : Int)).toNat = 23 by omega, it_rng1, show itoaB x = [48 + x.natAbs % 10] by unfold itoaB; rw [if_neg c131, if_neg (by omega)]; rfl]; rfl
        · rw [show (24 - (24 - ((2 : Nat) : Int)).toNat) = 2 by omega, show (24 - ((2 : Nat) : Int)).toNat = 22 by omega, it_rng2, show itoaB x = [48 + x.natAbs / 10, 48 + x.natAbs % 10] by unfold itoaB; rw [if_neg c131, if_pos (by omega)]; rfl]; rfl
end Go.Proofs.Qxb6500401aGreat.ChkW
