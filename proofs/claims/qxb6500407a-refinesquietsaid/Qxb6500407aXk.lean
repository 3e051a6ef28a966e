import Derived.Test.Qxb6500407aXj
set_option linter.unusedVariables false
set_option linter.unusedSimpArgs false
namespace Go.Proofs.Qxb6500407a
open Go.Eng Go.Huf

theorem kk_lim {N L : Nat} {c lf : Nat → Nat} (h : MI N c L lf) (hL : L ≤ 10) : kk 10 lf N = 2 ^ (10 - L) * kk L lf N := by
  have h10 : MI N c 10 lf := ⟨h.z, fun i => Nat.le_trans (h.le i) hL⟩
  rw [kk_used h, kk_used h10]
  exact kr_lim hL (fun i _ _ => h.le i)
theorem kk_cf {N : Nat} (lf : Nat → Nat) : kk 10 (cf (il N lf)) (il N lf).length = kk 10 lf N := by
  rw [il_len]; exact kk_cong fun i hi => cf_il hi
theorem okL_of {N L : Nat} {lf : Nat → Nat} (hL : L ≤ 10) (h : ∀ i, i < N → lf i ≤ L) : okL (il N lf) := fun j hj => by
  rw [il_len] at hj
  rw [il_at hj]; have := h j hj; omega
/-- what Plan's lengths are -/
structure PQ (cl : List Int) (L : Nat) : Prop where
  z : ∀ i, i < cl.length → (planL cl L i = 0 ↔ cf cl i = 0)
  le : ∀ i, i < cl.length → planL cl L i ≤ L
  e : lensE (planR cl L) = 0
  k : 2 ≤ liv (cf cl) cl.length → kk 10 (planL cl L) cl.length = 1024
  c1 : ∀ r, 2 ≤ liv (cf cl) cl.length → Gr cl.length r (cf cl) → js r (cf cl) ≤ cs (cf cl) (planL cl L) cl.length
  c2 : ∀ r, 2 ≤ liv (cf cl) cl.length → Gr cl.length r (cf cl) → liv (cf cl) cl.length = r.length + 1 → (∀ i, i < cl.length → pln cl.length (cf cl) i ≤ L) → cs (cf cl) (planL cl L) cl.length = js r (cf cl)
theorem plan_pq {cl : List Int} {L : Nat} (h : planE cl L = 0) : PQ cl L := by
  obtain ⟨h1, h2, h3, h4⟩ := planE_inv h
  rw [Int.toNat_natCast] at h4
  have hr := planR_ok h
  by_cases hu : liv (cf cl) cl.length < 2
  · have hp := planL_1 (L := L) hu
    have hz : ∀ i, i < cl.length → (planL cl L i = 0 ↔ cf cl i = 0) := fun i _ => by rw [hp]; simp only []; split <;> omega
    have hle : ∀ i, i < cl.length → planL cl L i ≤ 1 := fun i _ => by rw [hp]; simp only []; split <;> omega
    have hliv : liv (planL cl L) cl.length = liv (cf cl) cl.length := ct_congr fun i hi => by have := hz i hi; omega
    refine ⟨hz, fun i hi => Nat.le_trans (hle i hi) (by omega), ?_, fun e => by omega, fun r e => by omega, fun r e => by omega⟩
    rw [hr]
    have hk : kk 10 (planL cl L) cl.length ≤ 512 ∧ (liv (planL cl L) cl.length = 1 → kk 10 (planL cl L) cl.length = 512) := by
      rcases Nat.lt_or_ge (liv (planL cl L) cl.length) 1 with q | q
      · have h0 := none_used (show liv (planL cl L) cl.length = 0 by omega)
        have : kk 10 (planL cl L) cl.length = 0 := sm_zero fun i hi => by rw [h0 i hi]; rfl
        omega
      · obtain ⟨s, s1, s2, s3, s4, s5⟩ := one_used (fun i hi => Nat.le_trans (hle i hi) (by omega)) (show liv (planL cl L) cl.length = 1 by omega)
        have := hle s s1
        rw [show planL cl L s = 1 by omega] at s4
        rw [s4]; exact ⟨by decide, fun _ => by decide⟩
    unfold lensE
    rw [kk_cf, liv_il, il_len, if_neg (by omega), if_neg (fun e => e (okL_of (L := 1) (by omega) hle)), if_neg (by omega), if_neg (fun e => by have := hk.2; omega)]
  · have hp := planL_2 (L := L) hu
    have hpl := pln_ok h1 (show 2 ≤ liv (cf cl) cl.length by omega)
    obtain ⟨mi, mk⟩ := mend_ok (L := L) (l := pln cl.length (cf cl)) (by omega) h4 (show 2 ≤ liv (cf cl) cl.length by omega) hpl.z
    rw [← hp] at mi mk
    have hk10 : kk 10 (planL cl L) cl.length = 1024 := by
      rw [kk_lim mi (by omega), mk, ← Nat.pow_add, show 10 - L + L = 10 by omega]
    refine ⟨mi.z, fun i _ => mi.le i, ?_, fun _ => hk10, fun r _ hg => ?_, fun r _ hg hl hf => ?_⟩
    · rw [hr]; unfold lensE
      rw [kk_cf, liv_il, il_len, hk10, if_neg (by omega), if_neg (fun e => e (okL_of (L := L) (by omega) (fun i _ => mi.le i))), if_neg (by omega), if_neg (by omega)]
    · exact js_le r _ _ hg (fun i _ _ => mi.le i) (by rw [← kk_used mi, mk]; exact Nat.le_refl _)
    · obtain ⟨r', g1, g2, g3⟩ := hpl.cs
      rw [hp, mend_pln h1 (by omega) (fun i hi => cf_out hi) (by omega) hf, g3]
      exact js_same g1 hg g2 hl
theorem fndI_hit {lf : Nat → Nat} {N : Nat} (h : Lw lf N) {s a k : Nat} (hs : s < N) (hh : hd lf N s a) (hk : lf s ≤ k) (h16 : k ≤ 16) (ha : a < 2 ^ k) : fndI lf N (a : Int) (k : Int) = (s, lf s, 0) := by
  rw [fndI_ok h16 ha, h.fnd_some hs hh hk]
theorem hd_zero {lf : Nat → Nat} {N s : Nat} (h0 : 0 < lf s) : hd lf N s (cd lf N s) := Ln.hd_cd h0
/-- ones behind a code -/
theorem hd_ones {lf : Nat → Nat} {N s : Nat} (h0 : 0 < lf s) (h1 : lf s ≤ 10) : hd lf N s (cd lf N s ||| (65536 - 2 ^ lf s)) ∧ (cd lf N s ||| (65536 - 2 ^ lf s)) < 2 ^ 16 ∧ cd lf N s ||| (65536 - 2 ^ lf s) = cd lf N s + (65536 - 2 ^ lf s) := by
  have hc := Ln.cd_lt (l := lf) (N := N) s
  have e : 65536 - 2 ^ lf s = 2 ^ lf s * (2 ^ (16 - lf s) - 1) := by
    rw [Nat.mul_sub, Nat.mul_one, ← Nat.pow_add, show lf s + (16 - lf s) = 16 by omega]
  have ho : cd lf N s ||| (65536 - 2 ^ lf s) = cd lf N s + (65536 - 2 ^ lf s) := by
    rw [e, Nat.or_comm, ← Nat.two_pow_add_eq_or_of_lt hc]; omega
  have hp : 2 ^ lf s ≤ 65536 := p16 (by omega)
  refine ⟨⟨h0, ?_⟩, by rw [ho]; have : (2 : Nat) ^ 16 = 65536 := rfl; omega, ho⟩
  rw [ho, e, Nat.add_mul_mod_self_left, Nat.mod_eq_of_lt hc]
theorem codF_err {lf : Nat → Nat} {N : Nat} {sym : Int} (h : (codF lf N sym).2.2 = 0) : ∃ s : Nat, sym = s ∧ s < N ∧ 0 < lf s ∧ codF lf N sym = (cd lf N s, lf s, 0) := by
  unfold codF at h ⊢
  split at h
  · rename_i e
    refine ⟨sym.toNat, by omega, by omega, e.2.2, by rw [if_pos e]⟩
  · cases h
set_option maxHeartbeats 400000 in
theorem samesize_spec (h : Heap) (X : Nat) (u : HC) (c : CB h X u) (lf : Nat → Nat) (k : CK u lf) (M : Nat) (la kb : Option Addr) (mk : MK h M la kb lf u.n) :
    FC Try.prog 12 (#[.pointer (some ⟨X, 0, none⟩), .pointer (some ⟨M, 0, none⟩)] : Array Value) h fun rv h' => rv = .bool true ∧ h = h' := by
  refine FC_of [(0, .pointer (some ⟨X, 0, none⟩)), (1, .pointer (some ⟨M, 0, none⟩))] Try.func12 rfl Try.ntmps12 (by simp) rfl (fun R hR => ?_)
  refine V_sr T.mix (by kernel_rfl) (fun K1 hK1 => ?_)
  refine S_as rfl ?_
  refine S_nil (hK1 _ _ (V_keep [0, 1] (by simp only [proj, lk, reduceIte, Nat.reduceEqDiff]; rfl) ?_)); clear hK1
  refine V_sr T.mix (by kernel_rfl) (fun K2 hK2 => ?_)
  refine S_mv rfl ?_
  refine S_call T.hb25 rfl ?_
  refine FC.mono (size_spec h X u c) ?_
  rintro v' h' ⟨rfl, rfl⟩
  refine S_as rfl ?_
  refine S_nil (hK2 _ _ (V_keep [1, 5] (by simp only [proj, lk, reduceIte, Nat.reduceEqDiff]; rfl) ?_)); clear hK2
  refine V_sr T.mix (by kernel_rfl) (fun K3 hK3 => ?_)
  refine S_mv rfl ?_
  refine S_call T.hb13 rfl ?_
  refine FC.mono (msize_spec h M la kb lf u.n mk) ?_
  rintro v' h' ⟨rfl, rfl⟩
  refine S_as rfl ?_
  refine S_nil (hK3 _ _ (V_keep [5, 6] (by simp only [proj, lk, reduceIte, Nat.reduceEqDiff]; rfl) ?_)); clear hK3
  refine V_sr T.mix (by kernel_rfl) (fun K4 hK4 => ?_)
  refine S_mv rfl ?_
  refine S_mv rfl ?_
  refine S_bin rfl rfl rfl ?_
  refine S_as rfl ?_
  refine S_nil (hK4 _ _ (V_keep [4] (by simp only [proj, lk, reduceIte, Nat.reduceEqDiff]; rfl) ?_)); clear hK4
  refine V_ret ?_
  refine hR _ _ (ret1 rfl rfl ?_)
  exact ⟨by simp, rfl⟩
set_option maxHeartbeats 400000 in
theorem samecode_spec (h : Heap) (X : Nat) (u : HC) (c : CB h X u) (lf : Nat → Nat) (k : CK u lf) (M : Nat) (la kb : Option Addr) (mk : MK h M la kb lf u.n) (sym : Int) :
    FC Try.prog 14 (#[.pointer (some ⟨X, 0, none⟩), .pointer (some ⟨M, 0, none⟩), .int .i64 sym] : Array Value) h fun rv h' => rv = .bool true ∧ h = h' := by
  refine FC_of [(0, .pointer (some ⟨X, 0, none⟩)), (1, .pointer (some ⟨M, 0, none⟩)), (2, .int .i64 sym)] Try.func14 rfl Try.ntmps14 (by simp) rfl (fun R hR => ?_)
  refine V_sr T.mix (by kernel_rfl) (fun K1 hK1 => ?_)
  refine S_as rfl ?_
  refine S_nil (hK1 _ _ (V_keep [0, 1, 2] (by simp only [proj, lk, reduceIte, Nat.reduceEqDiff]; rfl) ?_)); clear hK1
  refine V_sr T.mix (by kernel_rfl) (fun K2 hK2 => ?_)
  refine S_mv rfl ?_
  refine S_mv rfl ?_
  refine S_call T.hb26 rfl ?_
  refine FC.mono (code_spec h X u c lf k sym) ?_
  rintro v' h' ⟨rfl, rfl⟩
  unfold tri
  refine S_mv rfl ?_
  refine S_ex rfl rfl ?_
  refine S_ex rfl rfl ?_
  refine S_ex rfl rfl ?_
  refine S_as rfl ?_
  refine S_as rfl ?_
  refine S_as rfl ?_
  refine S_nil (hK2 _ _ (V_keep [1, 2, 7, 8, 9] (by simp only [proj, lk, reduceIte, Nat.reduceEqDiff]; rfl) ?_)); clear hK2
  refine V_sr T.mix (by kernel_rfl) (fun K3 hK3 => ?_)
  refine S_mv rfl ?_
  refine S_mv rfl ?_
  refine S_call T.hb15 rfl ?_
  refine FC.mono (mcode_spec h M la kb lf u.n mk sym) ?_
  rintro v' h' ⟨rfl, rfl⟩
  unfold tri
  refine S_mv rfl ?_
  refine S_ex rfl rfl ?_
  refine S_ex rfl rfl ?_
  refine S_ex rfl rfl ?_
  refine S_as rfl ?_
  refine S_as rfl ?_
  refine S_as rfl ?_
  refine S_nil (hK3 _ _ (V_keep [7, 8, 9, 10, 11, 12] (by simp only [proj, lk, reduceIte, Nat.reduceEqDiff]; rfl) ?_)); clear hK3
  refine V_sr T.mix (by kernel_rfl) (fun K4 hK4 => ?_)
  refine S_mv rfl ?_
  refine S_mv rfl ?_
  refine S_bin rfl rfl rfl ?_
  refine S_mv rfl ?_
  refine S_dec (fun g294 => ?_) (fun g294 => ?_)
  · skip
    refine S_gt rfl ?_
    refine S_mv rfl ?_
    refine S_gt rfl ?_
    refine S_mv rfl ?_
    refine S_gt rfl ?_
    refine S_bin rfl rfl rfl ?_
    refine S_pt rfl rfl ?_
    refine S_mv rfl ?_
    refine S_dec (fun g294a => ?_) (fun g294a => ?_)
    · skip
      refine S_gt rfl ?_
      refine S_mv rfl ?_
      refine S_gt rfl ?_
      refine S_mv rfl ?_
      refine S_gt rfl ?_
      refine S_bin rfl rfl rfl ?_
      refine S_pt rfl rfl ?_
      refine S_as rfl ?_
      refine S_nil (hK4 _ _ (V_keep [6] (by simp only [proj, lk, reduceIte, Nat.reduceEqDiff]; rfl) ?_)); clear hK4
      refine V_ret ?_
      refine hR _ _ (ret1 rfl rfl ?_)
      exact ⟨by simp, rfl⟩
    · skip
      exact absurd rfl g294a
  · skip
    exact absurd rfl g294
set_option maxHeartbeats 400000 in
theorem samefind_spec (h : Heap) (X : Nat) (u : HC) (c : CB h X u) (lf : Nat → Nat) (k : CK u lf) (M : Nat) (la kb : Option Addr) (mk : MK h M la kb lf u.n) (x hv : Int) :
    FC Try.prog 17 (#[.pointer (some ⟨X, 0, none⟩), .pointer (some ⟨M, 0, none⟩), .int .i64 x, .int .i64 hv] : Array Value) h fun rv h' => rv = .bool true ∧ h = h' := by
  refine FC_of [(0, .pointer (some ⟨X, 0, none⟩)), (1, .pointer (some ⟨M, 0, none⟩)), (2, .int .i64 x), (3, .int .i64 hv)] Try.func17 rfl Try.ntmps17 (by simp) rfl (fun R hR => ?_)
  refine V_sr T.mix (by kernel_rfl) (fun K1 hK1 => ?_)
  refine S_as rfl ?_
  refine S_nil (hK1 _ _ (V_keep [0, 1, 2, 3] (by simp only [proj, lk, reduceIte, Nat.reduceEqDiff]; rfl) ?_)); clear hK1
  refine V_sr T.mix (by kernel_rfl) (fun K2 hK2 => ?_)
  refine S_mv rfl ?_
  refine S_mv rfl ?_
  refine S_mv rfl ?_
  refine S_call T.hb27 rfl ?_
  refine FC.mono (find_spec h X u c lf k x hv) ?_
  rintro v' h' ⟨rfl, rfl⟩
  unfold tri
  refine S_mv rfl ?_
  refine S_ex rfl rfl ?_
  refine S_ex rfl rfl ?_
  refine S_ex rfl rfl ?_
  refine S_as rfl ?_
  refine S_as rfl ?_
  refine S_as rfl ?_
  refine S_nil (hK2 _ _ (V_keep [1, 2, 3, 9, 10, 11] (by simp only [proj, lk, reduceIte, Nat.reduceEqDiff]; rfl) ?_)); clear hK2
  refine V_sr T.mix (by kernel_rfl) (fun K3 hK3 => ?_)
  refine S_mv rfl ?_
  refine S_mv rfl ?_
  refine S_mv rfl ?_
  refine S_call T.hb28 rfl ?_
  refine FC.mono (mfind_spec h M la kb lf u.n mk x hv) ?_
  rintro v' h' ⟨rfl, rfl⟩
  unfold tri
  refine S_mv rfl ?_
  refine S_ex rfl rfl ?_
  refine S_ex rfl rfl ?_
  refine S_ex rfl rfl ?_
  refine S_as rfl ?_
  refine S_as rfl ?_
  refine S_as rfl ?_
  refine S_nil (hK3 _ _ (V_keep [9, 10, 11, 12, 13, 14] (by simp only [proj, lk, reduceIte, Nat.reduceEqDiff]; rfl) ?_)); clear hK3
  refine V_sr T.mix (by kernel_rfl) (fun K4 hK4 => ?_)
  refine S_mv rfl ?_
  refine S_mv rfl ?_
  refine S_bin rfl rfl rfl ?_
  refine S_mv rfl ?_
  refine S_dec (fun g300 => ?_) (fun g300 => ?_)
  · skip
    refine S_gt rfl ?_
    refine S_mv rfl ?_
    refine S_gt rfl ?_
    refine S_mv rfl ?_
    refine S_gt rfl ?_
    refine S_bin rfl rfl rfl ?_
    refine S_pt rfl rfl ?_
    refine S_mv rfl ?_
    refine S_dec (fun g300a => ?_) (fun g300a => ?_)
    · skip
      refine S_gt rfl ?_
      refine S_mv rfl ?_
      refine S_gt rfl ?_
      refine S_mv rfl ?_
      refine S_gt rfl ?_
      refine S_bin rfl rfl rfl ?_
      refine S_pt rfl rfl ?_
      refine S_as rfl ?_
      refine S_nil (hK4 _ _ (V_keep [8] (by simp only [proj, lk, reduceIte, Nat.reduceEqDiff]; rfl) ?_)); clear hK4
      refine V_ret ?_
      refine hR _ _ (ret1 rfl rfl ?_)
      exact ⟨by simp, rfl⟩
    · skip
      exact absurd rfl g300a
  · skip
    exact absurd rfl g300
set_option maxHeartbeats 400000 in
theorem finds_spec (h : Heap) (M : Nat) (la cb : Option Addr) (lf : Nat → Nat) (N : Nat) (k : MK h M la cb lf N) (x hv : Int) (s kx : Nat) (hf_ : fndI lf N x hv = (s, kx, 0)) :
    FC Try.prog 59 (#[.pointer (some ⟨M, 0, none⟩), .int .i64 x, .int .i64 hv, .int .i64 (s : Int), .int .i64 (kx : Int)] : Array Value) h fun rv h' => rv = .bool true ∧ h = h' := by
  refine FC_of [(0, .pointer (some ⟨M, 0, none⟩)), (1, .int .i64 x), (2, .int .i64 hv), (3, .int .i64 (s : Int)), (4, .int .i64 (kx : Int))] Try.func59 rfl Try.ntmps59 (by simp) rfl (fun R hR => ?_)
  refine V_sr T.mix (by kernel_rfl) (fun K1 hK1 => ?_)
  refine S_as rfl ?_
  refine S_nil (hK1 _ _ (V_keep [0, 1, 2, 3, 4] (by simp only [proj, lk, reduceIte, Nat.reduceEqDiff]; rfl) ?_)); clear hK1
  refine V_sr T.mix (by kernel_rfl) (fun K2 hK2 => ?_)
  refine S_mv rfl ?_
  refine S_mv rfl ?_
  refine S_mv rfl ?_
  refine S_call T.hb28 rfl ?_
  refine FC.mono (mfind_spec h M la cb lf N k x hv) ?_
  rintro v' h' ⟨rfl, rfl⟩
  rw [hf_]
  unfold tri
  refine S_mv rfl ?_
  refine S_ex rfl rfl ?_
  refine S_ex rfl rfl ?_
  refine S_ex rfl rfl ?_
  refine S_as rfl ?_
  refine S_as rfl ?_
  refine S_as rfl ?_
  refine S_nil (hK2 _ _ (V_keep [3, 4, 11, 12, 13] (by simp only [proj, lk, reduceIte, Nat.reduceEqDiff]; rfl) ?_)); clear hK2
  refine V_sr T.mix (by kernel_rfl) (fun K3 hK3 => ?_)
  refine S_mv rfl ?_
  refine S_bin rfl rfl rfl ?_
  refine S_mv rfl ?_
  refine S_dec (fun g210 => ?_) (fun g210 => ?_)
  · skip
    refine S_gt rfl ?_
    refine S_mv rfl ?_
    refine S_gt rfl ?_
    refine S_mv rfl ?_
    refine S_gt rfl ?_
    refine S_bin rfl rfl rfl ?_
    refine S_pt rfl rfl ?_
    refine S_mv rfl ?_
    refine S_dec (fun g210a => ?_) (fun g210a => ?_)
    · skip
      refine S_gt rfl ?_
      refine S_mv rfl ?_
      refine S_gt rfl ?_
      refine S_mv rfl ?_
      refine S_gt rfl ?_
      refine S_bin rfl rfl rfl ?_
      refine S_pt rfl rfl ?_
      refine S_as rfl ?_
      refine S_nil (hK3 _ _ (V_keep [10] (by simp only [proj, lk, reduceIte, Nat.reduceEqDiff]; rfl) ?_)); clear hK3
      refine V_ret ?_
      refine hR _ _ (ret1 rfl rfl ?_)
      exact ⟨by simp, rfl⟩
    · skip
      exact absurd rfl g210a
  · skip
    exact absurd rfl g210
set_option maxHeartbeats 800000 in
theorem alikeat_spec (h : Heap) (X : Nat) (u : HC) (c : CB h X u) (lf : Nat → Nat) (k : CK u lf) (M : Nat) (la kb : Option Addr) (mk : MK h M la kb lf u.n) (s : Nat) (hs : s < u.n) (h0 : 0 < lf s) :
    FC Try.prog 16 (#[.pointer (some ⟨X, 0, none⟩), .pointer (some ⟨M, 0, none⟩), .int .i64 (cd lf u.n s : Int), .int .i64 (lf s : Int)] : Array Value) h fun rv h' => rv = .bool true ∧ h = h' := by
  have hl10 := k.lw.ln.le s hs
  have hc10 := cd10 k.lw.ln hs
  have hpl := p10 hl10
  have hpz := pp2 (lf s)
  have hpy := p10 (show lf s - 1 ≤ 10 by omega)
  have hpx := pp2 (lf s - 1)
  refine FC_of [(0, .pointer (some ⟨X, 0, none⟩)), (1, .pointer (some ⟨M, 0, none⟩)), (2, .int .i64 (cd lf u.n s : Int)), (3, .int .i64 (lf s : Int))] Try.func16 rfl Try.ntmps16 (by simp) rfl (fun R hR => ?_)
  refine V_sr T.mix (by kernel_rfl) (fun K1 hK1 => ?_)
  refine S_as rfl ?_
  refine S_nil (hK1 _ _ (V_keep [0, 1, 2, 3] (by simp only [proj, lk, reduceIte, Nat.reduceEqDiff]; rfl) ?_)); clear hK1
  refine V_seq (fun K2 hK2 => ?_)
  refine V_sr T.mix (by kernel_rfl) (fun K3 hK3 => ?_)
  refine S_mv rfl ?_
  refine S_mv rfl ?_
  refine S_mv rfl ?_
  refine S_mv rfl ?_
  refine S_call T.hb17 rfl ?_
  refine FC.mono (samefind_spec h X u c lf k M la kb mk ((cd lf u.n s : Int)) ((lf s : Int))) ?_
  rintro v' h' ⟨rfl, rfl⟩
  refine S_notb rfl ?_
  refine S_nil (hK3 _ _ (V_keep [0, 1, 2, 3, 14] (by simp only [proj, lk, reduceIte, Nat.reduceEqDiff]; rfl) ?_)); clear hK3
  refine V_condb rfl (fun c305 => ?_) (fun c305 => ?_)
  · skip
    cases c305
  · skip
    refine V_skipk [0, 1, 2, 3] (by simp only [proj, lk, reduceIte, Nat.reduceEqDiff]; rfl) ?_
    refine hK2 _ _ ?_; clear hK2
    refine V_seq (fun K4 hK4 => ?_)
    refine V_sr T.mix (by kernel_rfl) (fun K5 hK5 => ?_)
    refine S_mv rfl ?_
    refine S_mv rfl ?_
    refine S_mv rfl ?_
    refine S_call T.hb17 rfl ?_
    refine FC.mono (samefind_spec h X u c lf k M la kb mk ((cd lf u.n s : Int)) (16)) ?_
    rintro v' h' ⟨rfl, rfl⟩
    refine S_notb rfl ?_
    refine S_nil (hK5 _ _ (V_keep [0, 1, 2, 3, 19] (by simp only [proj, lk, reduceIte, Nat.reduceEqDiff]; rfl) ?_)); clear hK5
    refine V_condb rfl (fun c308 => ?_) (fun c308 => ?_)
    · skip
      cases c308
    · skip
      refine V_skipk [0, 1, 2, 3] (by simp only [proj, lk, reduceIte, Nat.reduceEqDiff]; rfl) ?_
      refine hK4 _ _ ?_; clear hK4
      refine V_seq (fun K6 hK6 => ?_)
      refine V_sr T.mix (by kernel_rfl) (fun K7 hK7 => ?_)
      refine S_mv rfl ?_
      refine S_mv rfl ?_
      refine S_mv rfl ?_
      refine S_mv rfl ?_
      refine S_cvN (lf s) T.us3 T.in51 rfl rfl (tu64 (by omega)) ?_
      refine S_nshl 1 (lf s) (2 ^ lf s) rfl rfl rfl rfl (Nat.one_mul _) (show lf s ≤ 64 by omega) (t64b (by omega)) ?_
      refine S_subN (65536 - 2 ^ lf s) rfl rfl (by omega) (by omega) ?_
      refine S_nor (cd lf u.n s) (65536 - 2 ^ lf s) (cd lf u.n s ||| (65536 - 2 ^ lf s)) rfl rfl rfl rfl rfl (t64b (by omega)) (t64b (by omega)) ?_
      refine S_call T.hb17 rfl ?_
      refine FC.mono (samefind_spec h X u c lf k M la kb mk ((((cd lf u.n s ||| (65536 - 2 ^ lf s)) : Nat) : Int)) (16)) ?_
      rintro v' h' ⟨rfl, rfl⟩
      refine S_notb rfl ?_
      refine S_nil (hK7 _ _ (V_keep [0, 1, 2, 3, 29] (by simp only [proj, lk, reduceIte, Nat.reduceEqDiff]; rfl) ?_)); clear hK7
      refine V_condb rfl (fun c311 => ?_) (fun c311 => ?_)
      · skip
        cases c311
      · skip
        refine V_skipk [0, 1, 2, 3] (by simp only [proj, lk, reduceIte, Nat.reduceEqDiff]; rfl) ?_
        refine hK6 _ _ ?_; clear hK6
        refine V_sr T.mix (by kernel_rfl) (fun K8 hK8 => ?_)
        refine S_mv rfl ?_
        refine S_mv rfl ?_
        refine S_mv rfl ?_
        refine S_mv rfl ?_
        refine S_subN (lf s - 1) rfl rfl (by omega) (by omega) ?_
        refine S_cvN (lf s - 1) T.us3 T.in51 rfl rfl (tu64 (by omega)) ?_
        refine S_nshl 1 (lf s - 1) (2 ^ (lf s - 1)) rfl rfl rfl rfl (Nat.one_mul _) (show lf s - 1 ≤ 64 by omega) (t64b (by omega)) ?_
        refine S_subN (2 ^ (lf s - 1) - 1) rfl rfl (by omega) (by omega) ?_
        refine S_nand (cd lf u.n s) (2 ^ (lf s - 1) - 1) (cd lf u.n s % 2 ^ (lf s - 1)) rfl rfl rfl rfl (and_mod _ _) (t64b (by omega)) (t64b (by omega)) ?_
        refine S_mv rfl ?_
        refine S_subN (lf s - 1) rfl rfl (by omega) (by omega) ?_
        refine S_call T.hb17 rfl ?_
        refine FC.mono (samefind_spec h X u c lf k M la kb mk (((cd lf u.n s % 2 ^ (lf s - 1) : Nat) : Int)) (((lf s - 1 : Nat) : Int))) ?_
        rintro v' h' ⟨rfl, rfl⟩
        refine S_as rfl ?_
        refine S_nil (hK8 _ _ (V_keep [8] (by simp only [proj, lk, reduceIte, Nat.reduceEqDiff]; rfl) ?_)); clear hK8
        refine V_ret ?_
        refine hR _ _ (ret1 rfl rfl ?_)
        exact ⟨rfl, rfl⟩
set_option maxHeartbeats 1600000 in
theorem alike_spec (h : Heap) (X : Nat) (u : HC) (c : CB h X u) (lf : Nat → Nat) (k : CK u lf) (M : Nat) (la kb : Option Addr) (mk : MK h M la kb lf u.n) (hf_ : u.fill ≤ 265) :
    FC Try.prog 9 (#[.pointer (some ⟨X, 0, none⟩), .pointer (some ⟨M, 0, none⟩)] : Array Value) h fun rv h' => rv = .bool true ∧ h = h' := by
  have hn := k.n
  refine FC_of [(0, .pointer (some ⟨X, 0, none⟩)), (1, .pointer (some ⟨M, 0, none⟩))] Try.func9 rfl Try.ntmps9 (by simp) rfl (fun R hR => ?_)
  refine V_sr T.mix (by kernel_rfl) (fun K1 hK1 => ?_)
  refine S_as rfl ?_
  refine S_nil (hK1 _ _ (V_keep [0, 1] (by simp only [proj, lk, reduceIte, Nat.reduceEqDiff]; rfl) ?_)); clear hK1
  refine V_seq (fun K2 hK2 => ?_)
  refine V_sr T.mix (by kernel_rfl) (fun K3 hK3 => ?_)
  refine S_mv rfl ?_
  refine S_mv rfl ?_
  refine S_call T.hb12 rfl ?_
  refine FC.mono (samesize_spec h X u c lf k M la kb mk) ?_
  rintro v' h' ⟨rfl, rfl⟩
  refine S_notb rfl ?_
  refine S_nil (hK3 _ _ (V_keep [0, 1, 15] (by simp only [proj, lk, reduceIte, Nat.reduceEqDiff]; rfl) ?_)); clear hK3
  refine V_condb rfl (fun c319 => ?_) (fun c319 => ?_)
  · skip
    cases c319
  · skip
    refine V_skipk [0, 1] (by simp only [proj, lk, reduceIte, Nat.reduceEqDiff]; rfl) ?_
    refine hK2 _ _ ?_; clear hK2
    refine V_sr T.mix (by kernel_rfl) (fun K4 hK4 => ?_)
    refine S_mv rfl ?_
    refine S_call T.hb13 rfl ?_
    refine FC.mono (msize_spec h M la kb lf u.n mk) ?_
    rintro v' h' ⟨rfl, rfl⟩
    refine S_as rfl ?_
    refine S_nil (hK4 _ _ (V_keep [0, 1, 5] (by simp only [proj, lk, reduceIte, Nat.reduceEqDiff]; rfl) ?_)); clear hK4
    refine V_seq (fun K5 hK5 => ?_)
    refine V_sr T.mix (by kernel_rfl) (fun K6 hK6 => ?_)
    refine S_as rfl ?_
    refine S_nil (hK6 _ _ (V_keep [0, 1, 5, 6] (by simp only [proj, lk, reduceIte, Nat.reduceEqDiff]; rfl) ?_)); clear hK6
    refine V_block ?_
    refine V_loop (fun m l h' => ∃ (ss : Int), (-1 ≤ ss) ∧ (ss ≤ u.n + 1) ∧ m = (u.n + 1 - ss).toNat ∧ l = [(0, .pointer (some ⟨X, 0, none⟩)), (1, .pointer (some ⟨M, 0, none⟩)), (5, .int .i64 (u.n : Int)), (6, .int .i64 ss)] ∧ h = h') _ ⟨-1, by omega, by omega, rfl, rfl, rfl⟩ ?_
    rintro m l h' ⟨ss, hs1_, hs2_, rfl, rfl, rfl⟩ K7 hK7
    refine V_seq (fun K8 hK8 => ?_)
    refine V_sr T.mix (by kernel_rfl) (fun K9 hK9 => ?_)
    refine S_mv rfl ?_
    refine S_mv rfl ?_
    refine S_bin rfl rfl rfl ?_
    refine S_nil (hK9 _ _ (V_keep [0, 1, 5, 6, 20] (by simp only [proj, lk, reduceIte, Nat.reduceEqDiff]; rfl) ?_)); clear hK9
    refine V_condp rfl (fun c323 => ?_) (fun c323 => ?_)
    · skip
      refine V_skipk [0, 1, 5, 6] (by simp only [proj, lk, reduceIte, Nat.reduceEqDiff]; rfl) ?_
      refine hK8 _ _ ?_; clear hK8
      refine V_seq (fun K10 hK10 => ?_)
      refine V_block ?_
      refine V_seq (fun K11 hK11 => ?_)
      refine V_sr T.mix (by kernel_rfl) (fun K12 hK12 => ?_)
      refine S_mv rfl ?_
      refine S_mv rfl ?_
      refine S_mv rfl ?_
      refine S_call T.hb14 rfl ?_
      refine FC.mono (samecode_spec h X u c lf k M la kb mk ss) ?_
      rintro v' h' ⟨rfl, rfl⟩
      refine S_notb rfl ?_
      refine S_nil (hK12 _ _ (V_keep [0, 1, 5, 6, 27] (by simp only [proj, lk, reduceIte, Nat.reduceEqDiff]; rfl) ?_)); clear hK12
      refine V_condb rfl (fun c324 => ?_) (fun c324 => ?_)
      · skip
        cases c324
      · skip
        refine V_skipk [0, 1, 5, 6] (by simp only [proj, lk, reduceIte, Nat.reduceEqDiff]; rfl) ?_
        refine hK11 _ _ ?_; clear hK11
        refine V_sr T.mix (by kernel_rfl) (fun K13 hK13 => ?_)
        refine S_mv rfl ?_
        refine S_mv rfl ?_
        refine S_call T.hb15 rfl ?_
        refine FC.mono (mcode_spec h M la kb lf u.n mk ss) ?_
        rintro v' h' ⟨rfl, rfl⟩
        unfold tri
        refine S_mv rfl ?_
        refine S_ex rfl rfl ?_
        refine S_ex rfl rfl ?_
        refine S_ex rfl rfl ?_
        refine S_as rfl ?_
        refine S_as rfl ?_
        refine S_as rfl ?_
        refine S_nil (hK13 _ _ (V_keep [0, 1, 5, 6, 7, 8, 9] (by simp only [proj, lk, reduceIte, Nat.reduceEqDiff]; rfl) ?_)); clear hK13
        refine V_sr T.mix (by kernel_rfl) (fun K14 hK14 => ?_)
        refine S_mv rfl ?_
        refine S_bin rfl rfl rfl ?_
        refine S_nil (hK14 _ _ (V_keep [0, 1, 5, 6, 7, 8, 36] (by simp only [proj, lk, reduceIte, Nat.reduceEqDiff]; rfl) ?_)); clear hK14
        refine V_condp rfl (fun c328 => ?_) (fun c328 => ?_)
        · skip
          obtain ⟨s, hs0, hs1, hs2, hcc⟩ := codF_err (lf := lf) (N := u.n) (sym := ss) (by omega)
          refine V_sr T.mix (by kernel_rfl) (fun K15 hK15 => ?_)
          refine S_mv rfl ?_
          refine S_mv rfl ?_
          refine S_mv rfl ?_
          refine S_mv rfl ?_
          refine S_call T.hb16 rfl ?_
          rw [hcc]
          refine FC.mono (alikeat_spec h X u c lf k M la kb mk s hs1 hs2) ?_
          rintro v' h' ⟨rfl, rfl⟩
          refine S_notb rfl ?_
          refine S_nil (hK15 _ _ (V_keep [0, 1, 5, 6, 42] (by simp only [proj, lk, reduceIte, Nat.reduceEqDiff]; rfl) ?_)); clear hK15
          refine V_condb rfl (fun c329 => ?_) (fun c329 => ?_)
          · skip
            cases c329
          · skip
            refine V_skipk [0, 1, 5, 6] (by simp only [proj, lk, reduceIte, Nat.reduceEqDiff]; rfl) ?_
            refine hK10 _ _ ?_; clear hK10
            refine V_reg T.mix (by kernel_rfl) ?_
            refine S_mv rfl ?_
            first | refine S_add rfl rfl (by omega) (by omega) ?_ | refine S_bin rfl rfl rfl ?_
            refine S_as rfl ?_
            refine S_nilk [0, 1, 5, 6] (by simp only [proj, lk, reduceIte, Nat.reduceEqDiff]; rfl) ?_
            exact hK7 _ _ ⟨_, by omega, ss + 1, by omega, by omega, rfl, rfl, rfl⟩
        · skip
          refine V_skipk [0, 1, 5, 6] (by simp only [proj, lk, reduceIte, Nat.reduceEqDiff]; rfl) ?_
          refine hK10 _ _ ?_; clear hK10
          refine V_reg T.mix (by kernel_rfl) ?_
          refine S_mv rfl ?_
          first | refine S_add rfl rfl (by omega) (by omega) ?_ | refine S_bin rfl rfl rfl ?_
          refine S_as rfl ?_
          refine S_nilk [0, 1, 5, 6] (by simp only [proj, lk, reduceIte, Nat.reduceEqDiff]; rfl) ?_
          exact hK7 _ _ ⟨_, by omega, ss + 1, by omega, by omega, rfl, rfl, rfl⟩
    · skip
      refine V_exitk [0, 1] rfl (by simp only [proj, lk, reduceIte, Nat.reduceEqDiff]; rfl) ?_
      refine hK5 _ _ ?_; clear hK5
      refine V_seq (fun K16 hK16 => ?_)
      refine V_sr T.mix (by kernel_rfl) (fun K17 hK17 => ?_)
      refine S_as rfl ?_
      refine S_nil (hK17 _ _ (V_keep [0, 1, 10] (by simp only [proj, lk, reduceIte, Nat.reduceEqDiff]; rfl) ?_)); clear hK17
      refine V_block ?_
      refine V_loop (fun m l h' => ∃ (hh : Nat), (hh ≤ 4) ∧ m = 4 - hh ∧ l = [(0, .pointer (some ⟨X, 0, none⟩)), (1, .pointer (some ⟨M, 0, none⟩)), (10, .int .i64 (hh : Int))] ∧ h = h') _ ⟨0, by omega, rfl, rfl, rfl⟩ ?_
      rintro m l h' ⟨hh, hh3, rfl, rfl, rfl⟩ K18 hK18
      refine V_seq (fun K19 hK19 => ?_)
      refine V_sr T.mix (by kernel_rfl) (fun K20 hK20 => ?_)
      refine S_mv rfl ?_
      refine S_bin rfl rfl rfl ?_
      refine S_nil (hK20 _ _ (V_keep [0, 1, 10, 44] (by simp only [proj, lk, reduceIte, Nat.reduceEqDiff]; rfl) ?_)); clear hK20
      refine V_condp rfl (fun c334 => ?_) (fun c334 => ?_)
      · skip
        refine V_skipk [0, 1, 10] (by simp only [proj, lk, reduceIte, Nat.reduceEqDiff]; rfl) ?_
        refine hK19 _ _ ?_; clear hK19
        refine V_seq (fun K21 hK21 => ?_)
        refine V_block ?_
        refine V_sr T.mix (by kernel_rfl) (fun K22 hK22 => ?_)
        refine S_as rfl ?_
        refine S_nil (hK22 _ _ (V_keep [0, 1, 10, 11] (by simp only [proj, lk, reduceIte, Nat.reduceEqDiff]; rfl) ?_)); clear hK22
        refine V_block ?_
        refine V_loop (fun m l h' => ∃ (b2 : Nat), (b2 ≤ 2 ^ hh) ∧ m = 2 ^ hh - b2 ∧ l = [(0, .pointer (some ⟨X, 0, none⟩)), (1, .pointer (some ⟨M, 0, none⟩)), (10, .int .i64 (hh : Int)), (11, .int .i64 (b2 : Int))] ∧ h = h') _ ⟨0, Nat.zero_le _, rfl, rfl, rfl⟩ ?_
        rintro m l h' ⟨b2, hb2, rfl, rfl, rfl⟩ K23 hK23
        have hp8 := p10 (show hh ≤ 10 by omega)
        refine V_seq (fun K24 hK24 => ?_)
        refine V_sr T.mix (by kernel_rfl) (fun K25 hK25 => ?_)
        refine S_mv rfl ?_
        refine S_mv rfl ?_
        refine S_cvN hh T.us3 T.in51 rfl rfl (tu64 (by omega)) ?_
        have hp8 := p10 (show hh ≤ 10 by omega)
        refine S_nshl 1 hh (2 ^ hh) rfl rfl rfl rfl (Nat.one_mul _) (show hh ≤ 64 by omega) (t64b (by omega)) ?_
        refine S_bin rfl rfl rfl ?_
        refine S_nil (hK25 _ _ (V_keep [0, 1, 10, 11, 51] (by simp only [proj, lk, reduceIte, Nat.reduceEqDiff]; rfl) ?_)); clear hK25
        refine V_condp rfl (fun c335 => ?_) (fun c335 => ?_)
        · skip
          refine V_skipk [0, 1, 10, 11] (by simp only [proj, lk, reduceIte, Nat.reduceEqDiff]; rfl) ?_
          refine hK24 _ _ ?_; clear hK24
          refine V_seq (fun K26 hK26 => ?_)
          refine V_block ?_
          refine V_sr T.mix (by kernel_rfl) (fun K27 hK27 => ?_)
          refine S_mv rfl ?_
          refine S_mv rfl ?_
          refine S_mv rfl ?_
          refine S_mv rfl ?_
          refine S_call T.hb17 rfl ?_
          refine FC.mono (samefind_spec h X u c lf k M la kb mk (b2 : Int) (hh : Int)) ?_
          rintro v' h' ⟨rfl, rfl⟩
          refine S_notb rfl ?_
          refine S_nil (hK27 _ _ (V_keep [0, 1, 10, 11, 59] (by simp only [proj, lk, reduceIte, Nat.reduceEqDiff]; rfl) ?_)); clear hK27
          refine V_condb rfl (fun c336 => ?_) (fun c336 => ?_)
          · skip
            cases c336
          · skip
            refine V_skipk [0, 1, 10, 11] (by simp only [proj, lk, reduceIte, Nat.reduceEqDiff]; rfl) ?_
            refine hK26 _ _ ?_; clear hK26
            refine V_reg T.mix (by kernel_rfl) ?_
            refine S_mv rfl ?_
            first | refine S_add rfl rfl (by omega) (by omega) ?_ | refine S_bin rfl rfl rfl ?_
            refine S_as rfl ?_
            refine S_nilk [0, 1, 10, 11] (by simp only [proj, lk, reduceIte, Nat.reduceEqDiff]; rfl) ?_
            exact hK23 _ _ ⟨_, by omega, b2 + 1, by omega, rfl, rfl, rfl⟩
        · skip
          refine V_exitk [0, 1, 10] rfl (by simp only [proj, lk, reduceIte, Nat.reduceEqDiff]; rfl) ?_
          refine hK21 _ _ ?_; clear hK21
          refine V_reg T.mix (by kernel_rfl) ?_
          refine S_mv rfl ?_
          first | refine S_add rfl rfl (by omega) (by omega) ?_ | refine S_bin rfl rfl rfl ?_
          refine S_as rfl ?_
          refine S_nilk [0, 1, 10] (by simp only [proj, lk, reduceIte, Nat.reduceEqDiff]; rfl) ?_
          exact hK18 _ _ ⟨_, by omega, hh + 1, by omega, rfl, rfl, rfl⟩
      · skip
        refine V_exitk [0] rfl (by simp only [proj, lk, reduceIte, Nat.reduceEqDiff]; rfl) ?_
        refine hK16 _ _ ?_; clear hK16
        refine V_sr T.mix (by kernel_rfl) (fun K28 hK28 => ?_)
        refine S_mv rfl ?_
        refine S_call T.hb18 rfl ?_
        refine FC.mono (hcheck_spec h X u c lf k hf_) ?_
        rintro v' h' ⟨rfl, rfl⟩
        refine S_as rfl ?_
        refine S_nil (hK28 _ _ (V_keep [4] (by simp only [proj, lk, reduceIte, Nat.reduceEqDiff]; rfl) ?_)); clear hK28
        refine V_ret ?_
        refine hR _ _ (ret1 rfl rfl ?_)
        exact ⟨rfl, rfl⟩
set_option maxHeartbeats 1600000 in
theorem back_spec (h : Heap) (M : Nat) (la cb : Option Addr) (lf : Nat → Nat) (N : Nat) (k : MK h M la cb lf N) :
    FC Try.prog 42 (#[.pointer (some ⟨M, 0, none⟩)] : Array Value) h fun rv h' => rv = .bool true ∧ h = h' := by
  have hn := k.n
  refine FC_of [(0, .pointer (some ⟨M, 0, none⟩))] Try.func42 rfl Try.ntmps42 (by simp) rfl (fun R hR => ?_)
  refine V_sr T.mix (by kernel_rfl) (fun K1 hK1 => ?_)
  refine S_as rfl ?_
  refine S_nil (hK1 _ _ (V_keep [0] (by simp only [proj, lk, reduceIte, Nat.reduceEqDiff]; rfl) ?_)); clear hK1
  refine V_sr T.mix (by kernel_rfl) (fun K2 hK2 => ?_)
  refine S_mv rfl ?_
  refine S_call T.hb13 rfl ?_
  refine FC.mono (msize_spec h M la cb lf N k) ?_
  rintro v' h' ⟨rfl, rfl⟩
  refine S_as rfl ?_
  refine S_nil (hK2 _ _ (V_keep [0, 3] (by simp only [proj, lk, reduceIte, Nat.reduceEqDiff]; rfl) ?_)); clear hK2
  refine V_seq (fun K3 hK3 => ?_)
  refine V_sr T.mix (by kernel_rfl) (fun K4 hK4 => ?_)
  refine S_as rfl ?_
  refine S_nil (hK4 _ _ (V_keep [0, 3, 4] (by simp only [proj, lk, reduceIte, Nat.reduceEqDiff]; rfl) ?_)); clear hK4
  refine V_block ?_
  refine V_loop (fun m l h' => ∃ (s : Nat), (s ≤ N) ∧ m = N - s ∧ l = [(0, .pointer (some ⟨M, 0, none⟩)), (3, .int .i64 (N : Int)), (4, .int .i64 (s : Int))] ∧ h = h') _ ⟨0, Nat.zero_le _, rfl, rfl, rfl⟩ ?_
  rintro m l h' ⟨s, hs, rfl, rfl, rfl⟩ K5 hK5
  refine V_seq (fun K6 hK6 => ?_)
  refine V_sr T.mix (by kernel_rfl) (fun K7 hK7 => ?_)
  refine S_mv rfl ?_
  refine S_mv rfl ?_
  refine S_bin rfl rfl rfl ?_
  refine S_nil (hK7 _ _ (V_keep [0, 3, 4, 12] (by simp only [proj, lk, reduceIte, Nat.reduceEqDiff]; rfl) ?_)); clear hK7
  refine V_condp rfl (fun c216 => ?_) (fun c216 => ?_)
  · skip
    refine V_skipk [0, 3, 4] (by simp only [proj, lk, reduceIte, Nat.reduceEqDiff]; rfl) ?_
    refine hK6 _ _ ?_; clear hK6
    refine V_seq (fun K8 hK8 => ?_)
    refine V_block ?_
    refine V_sr T.mix (by kernel_rfl) (fun K9 hK9 => ?_)
    refine S_mv rfl ?_
    refine S_mv rfl ?_
    refine S_call T.hb15 rfl ?_
    refine FC.mono (mcode_spec h M la cb lf N k (s : Int)) ?_
    rintro v' h' ⟨rfl, rfl⟩
    unfold tri
    refine S_mv rfl ?_
    refine S_ex rfl rfl ?_
    refine S_ex rfl rfl ?_
    refine S_ex rfl rfl ?_
    refine S_as rfl ?_
    refine S_as rfl ?_
    refine S_as rfl ?_
    refine S_nil (hK9 _ _ (V_keep [0, 3, 4, 5, 6, 7] (by simp only [proj, lk, reduceIte, Nat.reduceEqDiff]; rfl) ?_)); clear hK9
    refine V_sr T.mix (by kernel_rfl) (fun K10 hK10 => ?_)
    refine S_mv rfl ?_
    refine S_bin rfl rfl rfl ?_
    refine S_nil (hK10 _ _ (V_keep [0, 3, 4, 5, 6, 23] (by simp only [proj, lk, reduceIte, Nat.reduceEqDiff]; rfl) ?_)); clear hK10
    refine V_condp rfl (fun c218 => ?_) (fun c218 => ?_)
    · skip
      obtain ⟨s2, hs0, hs1, hs2, hcc⟩ := codF_err (lf := lf) (N := N) (sym := (s : Int)) (by omega)
      obtain rfl : s = s2 := by omega
      rw [hcc]
      have hl10 := k.lw.ln.le s hs1
      have hc10 := cd10 k.lw.ln hs1
      have hpl := p10 hl10
      have hpz := pp2 (lf s)
      have ho := hd_ones (N := N) hs2 hl10
      refine V_seq (fun K11 hK11 => ?_)
      refine V_sr T.mix (by kernel_rfl) (fun K12 hK12 => ?_)
      refine S_mv rfl ?_
      refine S_mv rfl ?_
      refine S_mv rfl ?_
      refine S_mv rfl ?_
      refine S_mv rfl ?_
      refine S_call T.hb59 rfl ?_
      refine FC.mono (finds_spec h M la cb lf N k (cd lf N s : Int) (lf s : Int) s (lf s) (fndI_hit k.lw hs1 (hd_zero hs2) (Nat.le_refl _) (by omega) (Ln.cd_lt s))) ?_
      rintro v' h' ⟨rfl, rfl⟩
      refine S_notb rfl ?_
      refine S_nil (hK12 _ _ (V_keep [0, 3, 4, 5, 6, 30] (by simp only [proj, lk, reduceIte, Nat.reduceEqDiff]; rfl) ?_)); clear hK12
      refine V_condb rfl (fun c219 => ?_) (fun c219 => ?_)
      · skip
        cases c219
      · skip
        refine V_skipk [0, 3, 4, 5, 6] (by simp only [proj, lk, reduceIte, Nat.reduceEqDiff]; rfl) ?_
        refine hK11 _ _ ?_; clear hK11
        refine V_seq (fun K13 hK13 => ?_)
        refine V_sr T.mix (by kernel_rfl) (fun K14 hK14 => ?_)
        refine S_mv rfl ?_
        refine S_mv rfl ?_
        refine S_mv rfl ?_
        refine S_mv rfl ?_
        refine S_call T.hb59 rfl ?_
        refine FC.mono (finds_spec h M la cb lf N k (cd lf N s : Int) 16 s (lf s) (fndI_hit (k := 16) k.lw hs1 (hd_zero hs2) (by omega) (by omega) (Nat.lt_of_lt_of_le hc10 (by decide)))) ?_
        rintro v' h' ⟨rfl, rfl⟩
        refine S_notb rfl ?_
        refine S_nil (hK14 _ _ (V_keep [0, 3, 4, 5, 6, 36] (by simp only [proj, lk, reduceIte, Nat.reduceEqDiff]; rfl) ?_)); clear hK14
        refine V_condb rfl (fun c222 => ?_) (fun c222 => ?_)
        · skip
          cases c222
        · skip
          refine V_skipk [0, 3, 4, 5, 6] (by simp only [proj, lk, reduceIte, Nat.reduceEqDiff]; rfl) ?_
          refine hK13 _ _ ?_; clear hK13
          refine V_sr T.mix (by kernel_rfl) (fun K15 hK15 => ?_)
          refine S_mv rfl ?_
          refine S_mv rfl ?_
          refine S_mv rfl ?_
          refine S_cvN (lf s) T.us3 T.in51 rfl rfl (tu64 (by omega)) ?_
          refine S_nshl 1 (lf s) (2 ^ lf s) rfl rfl rfl rfl (Nat.one_mul _) (show lf s ≤ 64 by omega) (t64b (by omega)) ?_
          refine S_subN (65536 - 2 ^ lf s) rfl rfl (by omega) (by omega) ?_
          refine S_nor (cd lf N s) (65536 - 2 ^ lf s) (cd lf N s ||| (65536 - 2 ^ lf s)) rfl rfl rfl rfl rfl (t64b (by omega)) (t64b (by omega)) ?_
          refine S_mv rfl ?_
          refine S_mv rfl ?_
          refine S_call T.hb59 rfl ?_
          refine FC.mono (finds_spec h M la cb lf N k ((cd lf N s ||| (65536 - 2 ^ lf s) : Nat) : Int) 16 s (lf s) (fndI_hit (k := 16) k.lw hs1 ho.1 (by omega) (by omega) ho.2.1)) ?_
          rintro v' h' ⟨rfl, rfl⟩
          refine S_notb rfl ?_
          refine S_nil (hK15 _ _ (V_keep [0, 3, 4, 47] (by simp only [proj, lk, reduceIte, Nat.reduceEqDiff]; rfl) ?_)); clear hK15
          refine V_condb rfl (fun c225 => ?_) (fun c225 => ?_)
          · skip
            cases c225
          · skip
            refine V_skipk [0, 3, 4] (by simp only [proj, lk, reduceIte, Nat.reduceEqDiff]; rfl) ?_
            refine hK8 _ _ ?_; clear hK8
            refine V_reg T.mix (by kernel_rfl) ?_
            refine S_mv rfl ?_
            first | refine S_add rfl rfl (by omega) (by omega) ?_ | refine S_bin rfl rfl rfl ?_
            refine S_as rfl ?_
            refine S_nilk [0, 3, 4] (by simp only [proj, lk, reduceIte, Nat.reduceEqDiff]; rfl) ?_
            exact hK5 _ _ ⟨_, by omega, s + 1, by omega, rfl, rfl, rfl⟩
    · skip
      refine V_skipk [0, 3, 4] (by simp only [proj, lk, reduceIte, Nat.reduceEqDiff]; rfl) ?_
      refine hK8 _ _ ?_; clear hK8
      refine V_reg T.mix (by kernel_rfl) ?_
      refine S_mv rfl ?_
      first | refine S_add rfl rfl (by omega) (by omega) ?_ | refine S_bin rfl rfl rfl ?_
      refine S_as rfl ?_
      refine S_nilk [0, 3, 4] (by simp only [proj, lk, reduceIte, Nat.reduceEqDiff]; rfl) ?_
      exact hK5 _ _ ⟨_, by omega, s + 1, by omega, rfl, rfl, rfl⟩
  · skip
    refine V_exitk [] rfl (by simp only [proj, lk, reduceIte, Nat.reduceEqDiff]; rfl) ?_
    refine hK3 _ _ ?_; clear hK3
    refine V_sr T.mix (by kernel_rfl) (fun K16 hK16 => ?_)
    refine S_as rfl ?_
    refine S_nil (hK16 _ _ (V_keep [2] (by simp only [proj, lk, reduceIte, Nat.reduceEqDiff]; rfl) ?_)); clear hK16
    refine V_ret ?_
    refine hR _ _ (ret1 rfl rfl ?_)
    exact ⟨rfl, rfl⟩
set_option maxHeartbeats 3200000 in
theorem keeps_spec (h : Heap) (a : Option Addr) (cap : Nat) (cl : List Int) (hIc : IL h a cap cl) (L : Nat) (he0 : planE cl L = 0) (pa : Option Addr) (pc : Nat) (hIp : IL h pa pc (planR cl L)) :
    FC Try.prog 39 (#[.slice a cl.length cap, .int .i64 (L : Int), .slice pa (planR cl L).length pc] : Array Value) h fun rv h' => rv = .bool true ∧ Ext (fun _ => False) h h' := by
  obtain ⟨h1_, h2_, h3_, h4_⟩ := planE_inv he0
  have hpr := planR_ok he0
  have pq := plan_pq he0
  have hplen : (planR cl L).length = cl.length := by rw [hpr, il_len]
  have hil := okC_il h3_
  have hlv9 := liv_le (cf cl) cl.length
  have hcb : ∀ i, i < cl.length → cf cl i ≤ 1048576 := fun i hi => by have h9 := h3_ i hi; unfold cf; omega
  refine FC_of [(0, .slice a cl.length cap), (1, .int .i64 (L : Int)), (2, .slice pa (planR cl L).length pc)] Try.func39 rfl Try.ntmps39 (by simp) rfl (fun R hR => ?_)
  refine V_sr T.mix (by kernel_rfl) (fun K1 hK1 => ?_)
  refine S_as rfl ?_
  refine S_nil (hK1 _ _ (V_keep [0, 1, 2] (by simp only [proj, lk, reduceIte, Nat.reduceEqDiff]; rfl) ?_)); clear hK1
  refine V_seq (fun K2 hK2 => ?_)
  refine V_sr T.mix (by kernel_rfl) (fun K3 hK3 => ?_)
  refine S_mv rfl ?_
  refine S_lenl T.el32 rfl ?_
  refine S_mv rfl ?_
  refine S_lenl T.el32 rfl ?_
  refine S_bin rfl rfl rfl ?_
  refine S_nil (hK3 _ _ (V_keep [0, 1, 2, 18] (by simp only [proj, lk, reduceIte, Nat.reduceEqDiff]; rfl) ?_)); clear hK3
  refine V_condp rfl (fun c172 => ?_) (fun c172 => ?_)
  · skip
    exfalso; exact c172 (by rw [hplen])
  · skip
    refine V_skipk [0, 1, 2] (by simp only [proj, lk, reduceIte, Nat.reduceEqDiff]; rfl) ?_
    refine hK2 _ _ ?_; clear hK2
    refine V_seq (fun K4 hK4 => ?_)
    refine V_sr T.mix (by kernel_rfl) (fun K5 hK5 => ?_)
    refine S_as rfl ?_
    refine S_nil (hK5 _ _ (V_keep [0, 1, 2, 7] (by simp only [proj, lk, reduceIte, Nat.reduceEqDiff]; rfl) ?_)); clear hK5
    refine V_block ?_
    refine V_loop (fun m l h' => ∃ (i : Nat), (i ≤ cl.length) ∧ m = cl.length - i ∧ l = [(0, .slice a cl.length cap), (1, .int .i64 (L : Int)), (2, .slice pa (planR cl L).length pc), (7, .int .i64 (i : Int))] ∧ h = h') _ ⟨0, Nat.zero_le _, rfl, rfl, rfl⟩ ?_
    rintro m l h' ⟨i, hi, rfl, rfl, rfl⟩ K6 hK6
    refine V_seq (fun K7 hK7 => ?_)
    refine V_sr T.mix (by kernel_rfl) (fun K8 hK8 => ?_)
    refine S_mv rfl ?_
    refine S_mv rfl ?_
    refine S_lenl T.el32 rfl ?_
    refine S_bin rfl rfl rfl ?_
    refine S_nil (hK8 _ _ (V_keep [0, 1, 2, 7, 22] (by simp only [proj, lk, reduceIte, Nat.reduceEqDiff]; rfl) ?_)); clear hK8
    refine V_condp rfl (fun c175 => ?_) (fun c175 => ?_)
    · skip
      obtain ⟨ab, habe, _, hat, _⟩ := hIc.get (by omega)
      subst habe
      obtain ⟨pb, hpbe, _, hpt0, _⟩ := hIp.get (by omega)
      subst hpbe
      have hpt : ∀ j, j < cl.length → cellH h ⟨pb, j, none⟩ = some (.int .i64 ((planL cl L j : Nat) : Int)) := fun j hj => by rw [hpt0 j (by omega), hpr, il_at hj]
      have hzi := pq.z i (by omega)
      have hli := pq.le i (by omega)
      have h3i := h3_ i (by omega)
      have hci := cf_at h3i.1
      refine V_skipk [0, 1, 2, 7] (by simp only [proj, lk, reduceIte, Nat.reduceEqDiff]; rfl) ?_
      refine hK7 _ _ ?_; clear hK7
      refine V_seq (fun K9 hK9 => ?_)
      refine V_block ?_
      refine V_seq (fun K10 hK10 => ?_)
      refine V_sr T.mix (by kernel_rfl) (fun K11 hK11 => ?_)
      refine S_mv rfl ?_
      refine S_mv rfl ?_
      first | refine S_ixn T.el32 rfl rfl (by omega) ?_ | refine S_ix1 T.el32 rfl rfl (by omega) (by omega) ?_ | refine S_ix T.el32 rfl rfl (by omega) (by omega) ?_
      refine S_ldK T.ag3 rfl (fun K' hK' => ?_)
      simp (disch := omega) only [hat, hpt, oP_some, Nat.add_zero]
      refine hK' _ ?_; clear hK' K'
      refine S_bin rfl rfl rfl ?_
      refine S_mv rfl ?_
      refine S_mv rfl ?_
      first | refine S_ixn T.el32 rfl rfl (by omega) ?_ | refine S_ix1 T.el32 rfl rfl (by omega) (by omega) ?_ | refine S_ix T.el32 rfl rfl (by omega) (by omega) ?_
      refine S_ldK T.ag3 rfl (fun K' hK' => ?_)
      simp (disch := omega) only [hat, hpt, oP_some, Nat.add_zero]
      refine hK' _ ?_; clear hK' K'
      refine S_bin rfl rfl rfl ?_
      refine S_bin rfl rfl (by simp only [binV, T.kd4]; rfl) ?_
      refine S_nil (hK11 _ _ (V_keep [0, 1, 2, 7, 35] (by simp only [proj, lk, reduceIte, Nat.reduceEqDiff]; rfl) ?_)); clear hK11
      refine V_condp rfl (fun c176 => ?_) (fun c176 => ?_)
      · skip
        exfalso; apply c176; by_cases q : cf cl i = 0; (rw [decide_eq_true (show ((planL cl L i : Nat) : Int) = 0 by omega), decide_eq_true (show cl.getD i 0 = 0 by omega)]); (rw [decide_eq_false (show ¬ ((planL cl L i : Nat) : Int) = 0 by omega), decide_eq_false (show ¬ cl.getD i 0 = 0 by omega)])
      · skip
        refine V_skipk [0, 1, 2, 7] (by simp only [proj, lk, reduceIte, Nat.reduceEqDiff]; rfl) ?_
        refine hK10 _ _ ?_; clear hK10
        refine V_sr T.mix (by kernel_rfl) (fun K12 hK12 => ?_)
        refine S_mv rfl ?_
        refine S_mv rfl ?_
        first | refine S_ixn T.el32 rfl rfl (by omega) ?_ | refine S_ix1 T.el32 rfl rfl (by omega) (by omega) ?_ | refine S_ix T.el32 rfl rfl (by omega) (by omega) ?_
        refine S_ldK T.ag3 rfl (fun K' hK' => ?_)
        simp (disch := omega) only [hat, hpt, oP_some, Nat.add_zero]
        refine hK' _ ?_; clear hK' K'
        refine S_bin rfl rfl rfl ?_
        refine S_mv rfl ?_
        refine S_dec (fun g179 => ?_) (fun g179 => ?_)
        · skip
          exfalso; omega
        · skip
          refine S_gt rfl ?_
          refine S_mv rfl ?_
          refine S_gt rfl ?_
          refine S_mv rfl ?_
          refine S_gt rfl ?_
          first | refine S_ixn T.el32 rfl rfl (by omega) ?_ | refine S_ix1 T.el32 rfl rfl (by omega) (by omega) ?_ | refine S_ix T.el32 rfl rfl (by omega) (by omega) ?_
          refine S_gt rfl ?_
          refine S_ldK T.ag3 rfl (fun K' hK' => ?_)
          simp (disch := omega) only [hat, hpt, oP_some, Nat.add_zero]
          refine hK' _ ?_; clear hK' K'
          refine S_gt rfl ?_
          refine S_mv rfl ?_
          refine S_gt rfl ?_
          refine S_bin rfl rfl rfl ?_
          refine S_pf rfl rfl ?_
          refine S_nil (hK12 _ _ (V_keep [0, 1, 2, 7, 48] (by simp only [proj, lk, reduceIte, Nat.reduceEqDiff]; rfl) ?_)); clear hK12
          refine V_condp rfl (fun c179 => ?_) (fun c179 => ?_)
          · skip
            exfalso; omega
          · skip
            refine V_skipk [0, 1, 2, 7] (by simp only [proj, lk, reduceIte, Nat.reduceEqDiff]; rfl) ?_
            refine hK9 _ _ ?_; clear hK9
            refine V_reg T.mix (by kernel_rfl) ?_
            refine S_mv rfl ?_
            first | refine S_add rfl rfl (by omega) (by omega) ?_ | refine S_bin rfl rfl rfl ?_
            refine S_as rfl ?_
            refine S_nilk [0, 1, 2, 7] (by simp only [proj, lk, reduceIte, Nat.reduceEqDiff]; rfl) ?_
            exact hK6 _ _ ⟨_, by omega, i + 1, by omega, rfl, rfl, rfl⟩
    · skip
      refine V_exitk [0, 1, 2] rfl (by simp only [proj, lk, reduceIte, Nat.reduceEqDiff]; rfl) ?_
      refine hK4 _ _ ?_; clear hK4
      refine V_sr T.mix (by kernel_rfl) (fun K13 hK13 => ?_)
      refine S_mv rfl ?_
      refine S_call T.hb52 rfl ?_
      refine FC.mono (checklens_spec h pa pc _ hIp) ?_
      rintro v' h' ⟨rfl, rfl⟩
      rw [pq.e]
      refine S_as rfl ?_
      refine S_nil (hK13 _ _ (V_keep [0, 1, 2, 8] (by simp only [proj, lk, reduceIte, Nat.reduceEqDiff]; rfl) ?_)); clear hK13
      refine V_seq (fun K14 hK14 => ?_)
      refine V_sr T.mix (by kernel_rfl) (fun K15 hK15 => ?_)
      refine S_mv rfl ?_
      refine S_bin rfl rfl rfl ?_
      refine S_nil (hK15 _ _ (V_keep [0, 1, 2, 52] (by simp only [proj, lk, reduceIte, Nat.reduceEqDiff]; rfl) ?_)); clear hK15
      refine V_condp rfl (fun c184 => ?_) (fun c184 => ?_)
      · skip
        exfalso; exact c184 rfl
      · skip
        refine V_skipk [0, 1, 2] (by simp only [proj, lk, reduceIte, Nat.reduceEqDiff]; rfl) ?_
        refine hK14 _ _ ?_; clear hK14
        refine V_sr T.mix (by kernel_rfl) (fun K16 hK16 => ?_)
        refine S_mv rfl ?_
        refine S_call T.hb48 rfl ?_
        refine FC.mono (used_spec h a cap cl hIc (by omega)) ?_
        rintro v' h' ⟨rfl, rfl⟩
        refine S_as rfl ?_
        refine S_nil (hK16 _ _ (V_keep [0, 1, 2, 9] (by simp only [proj, lk, reduceIte, Nat.reduceEqDiff]; rfl) ?_)); clear hK16
        refine V_seq (fun K17 hK17 => ?_)
        refine V_sr T.mix (by kernel_rfl) (fun K18 hK18 => ?_)
        refine S_mv rfl ?_
        refine S_bin rfl rfl rfl ?_
        refine S_nil (hK18 _ _ (V_keep [0, 1, 2, 56] (by simp only [proj, lk, reduceIte, Nat.reduceEqDiff]; rfl) ?_)); clear hK18
        refine V_condp rfl (fun c188 => ?_) (fun c188 => ?_)
        · skip
          refine V_sr T.mix (by kernel_rfl) (fun K19 hK19 => ?_)
          refine S_as rfl ?_
          refine S_nil (hK19 _ _ (V_keep [6] (by simp only [proj, lk, reduceIte, Nat.reduceEqDiff]; rfl) ?_)); clear hK19
          refine V_ret ?_
          refine hR _ _ (ret1 rfl rfl ?_)
          exact ⟨rfl, Ext.refl _ _⟩
        · skip
          refine V_skipk [0, 1, 2] (by simp only [proj, lk, reduceIte, Nat.reduceEqDiff]; rfl) ?_
          refine hK17 _ _ ?_; clear hK17
          refine V_sr T.mix (by kernel_rfl) (fun K20 hK20 => ?_)
          refine S_mv rfl ?_
          refine S_call T.hb53 rfl ?_
          have hkr := kraft_spec h pa pc _ hIp (by omega) (by rw [hpr]; exact okL_of (L := L) (by omega) pq.le)
          rw [show kk 10 (cf (planR cl L)) (planR cl L).length = kk 10 (planL cl L) cl.length by rw [hpr]; exact kk_cf _, pq.k (by omega)] at hkr
          refine FC.mono (hkr) ?_
          rintro v' h' ⟨rfl, rfl⟩
          refine S_as rfl ?_
          refine S_nil (hK20 _ _ (V_keep [0, 1, 2, 10] (by simp only [proj, lk, reduceIte, Nat.reduceEqDiff]; rfl) ?_)); clear hK20
          refine V_seq (fun K21 hK21 => ?_)
          refine V_sr T.mix (by kernel_rfl) (fun K22 hK22 => ?_)
          refine S_mv rfl ?_
          refine S_bin rfl rfl rfl ?_
          refine S_nil (hK22 _ _ (V_keep [0, 1, 2, 60] (by simp only [proj, lk, reduceIte, Nat.reduceEqDiff]; rfl) ?_)); clear hK22
          refine V_condp rfl (fun c192 => ?_) (fun c192 => ?_)
          · skip
            exfalso; exact c192 rfl
          · skip
            refine V_skipk [0, 1, 2] (by simp only [proj, lk, reduceIte, Nat.reduceEqDiff]; rfl) ?_
            refine hK21 _ _ ?_; clear hK21
            refine V_sr T.mix (by kernel_rfl) (fun K23 hK23 => ?_)
            refine S_mv rfl ?_
            refine S_mv rfl ?_
            refine S_call T.hb54 rfl ?_
            obtain ⟨ab, habe, _, _, _⟩ := hIc.get (by omega)
            subst habe
            obtain ⟨pb, hpbe, _, _, _⟩ := hIp.get (by omega)
            subst hpbe
            have hIc2 := hIc
            rw [hil] at hIc2
            have hIp2 := hIp
            rw [hpr] at hIp2
            have hco := cost_spec h cl.length (cf cl) (planL cl L) ab pb cap pc h1_ hIc2 hIp2 hcb (fun i hi => by have h9 := pq.le i hi; omega)
            rw [hplen]
            refine FC.mono (hco) ?_
            rintro v' h' ⟨rfl, rfl⟩
            refine S_as rfl ?_
            refine S_nil (hK23 _ _ (V_keep [0, 1, 11] (by simp only [proj, lk, reduceIte, Nat.reduceEqDiff]; rfl) ?_)); clear hK23
            refine V_sr T.mix (by kernel_rfl) (fun K24 hK24 => ?_)
            refine S_mv rfl ?_
            refine S_call T.hb55 rfl ?_
            refine FC.mono (ideal_spec h cl.length (cf cl) ab cap h1_ hIc2 hcb (by omega)) ?_
            rintro v' h1 ⟨r, rfl, hgr, hrl, hE1⟩
            have hc1 := pq.c1 r (by omega) hgr
            have hc2 := pq.c2 r (by omega) hgr hrl
            have hIc3 := hIc2.ext hE1 (fun _ _ f => f)
            refine S_as rfl ?_
            refine S_nil (hK24 _ _ (V_keep [0, 1, 11, 12] (by simp only [proj, lk, reduceIte, Nat.reduceEqDiff]; rfl) ?_)); clear hK24
            refine V_seq (fun K25 hK25 => ?_)
            refine V_sr T.mix (by kernel_rfl) (fun K26 hK26 => ?_)
            refine S_mv rfl ?_
            refine S_mv rfl ?_
            refine S_bin rfl rfl rfl ?_
            refine S_nil (hK26 _ _ (V_keep [0, 1, 11, 12, 68] (by simp only [proj, lk, reduceIte, Nat.reduceEqDiff]; rfl) ?_)); clear hK26
            refine V_condp rfl (fun c197 => ?_) (fun c197 => ?_)
            · skip
              exfalso; omega
            · skip
              refine V_skipk [0, 1, 11, 12] (by simp only [proj, lk, reduceIte, Nat.reduceEqDiff]; rfl) ?_
              refine hK25 _ _ ?_; clear hK25
              refine V_sr T.mix (by kernel_rfl) (fun K27 hK27 => ?_)
              refine S_mv rfl ?_
              refine S_call T.hb56 rfl ?_
              refine FC.mono (depth_spec h1 cl.length (cf cl) ab cap h1_ hIc3 hcb) ?_
              rintro v' h2 ⟨d, rfl, hd_, hE2⟩
              refine S_as rfl ?_
              refine S_nil (hK27 _ _ (V_keep [1, 11, 12, 13] (by simp only [proj, lk, reduceIte, Nat.reduceEqDiff]; rfl) ?_)); clear hK27
              refine V_seq (fun K28 hK28 => ?_)
              refine V_sr T.mix (by kernel_rfl) (fun K29 hK29 => ?_)
              refine S_mv rfl ?_
              refine S_mv rfl ?_
              refine S_bin rfl rfl rfl ?_
              refine S_mv rfl ?_
              refine S_dec (fun g201 => ?_) (fun g201 => ?_)
              · skip
                refine S_gt rfl ?_
                refine S_mv rfl ?_
                refine S_gt rfl ?_
                refine S_mv rfl ?_
                refine S_gt rfl ?_
                refine S_bin rfl rfl rfl ?_
                refine S_pt rfl rfl ?_
                refine S_nil (hK29 _ _ (V_keep [78] (by simp only [proj, lk, reduceIte, Nat.reduceEqDiff]; rfl) ?_)); clear hK29
                refine V_condp rfl (fun c201 => ?_) (fun c201 => ?_)
                · skip
                  exfalso; have h9 := hc2 (fun i hi => by have h8 := (hd_ (by omega)).1 i hi; omega); omega
                · skip
                  refine V_skipk [] (by simp only [proj, lk, reduceIte, Nat.reduceEqDiff]; rfl) ?_
                  refine hK28 _ _ ?_; clear hK28
                  refine V_sr T.mix (by kernel_rfl) (fun K30 hK30 => ?_)
                  refine S_as rfl ?_
                  refine S_nil (hK30 _ _ (V_keep [6] (by simp only [proj, lk, reduceIte, Nat.reduceEqDiff]; rfl) ?_)); clear hK30
                  refine V_ret ?_
                  refine hR _ _ (ret1 rfl rfl ?_)
                  exact ⟨rfl, hE1.trans hE2⟩
              · skip
                refine S_gf rfl ?_
                refine S_gf rfl ?_
                refine S_gf rfl ?_
                refine S_pf rfl rfl ?_
                refine S_nil (hK29 _ _ (V_keep [78] (by simp only [proj, lk, reduceIte, Nat.reduceEqDiff]; rfl) ?_)); clear hK29
                refine V_condf rfl ?_
                refine V_skipk [] (by simp only [proj, lk, reduceIte, Nat.reduceEqDiff]; rfl) ?_
                refine hK28 _ _ ?_; clear hK28
                refine V_sr T.mix (by kernel_rfl) (fun K31 hK31 => ?_)
                refine S_as rfl ?_
                refine S_nil (hK31 _ _ (V_keep [6] (by simp only [proj, lk, reduceIte, Nat.reduceEqDiff]; rfl) ?_)); clear hK31
                refine V_ret ?_
                refine hR _ _ (ret1 rfl rfl ?_)
                exact ⟨rfl, hE1.trans hE2⟩
end Go.Proofs.Qxb6500407a
