import Derived.Test.Qxb6500404aGreatXj
set_option linter.unusedVariables false
set_option linter.unusedSimpArgs false
namespace Go.Proofs.Qxb6500404aGreat.HufW
open Go.Eng Go.Huf

theorem kk_lim {N L : Nat} {c lf : Nat → Nat} (h : MI N c L lf) (hL : L ≤ 10) : kk 10 lf N = 2 ^ (10 - L) * kk L lf N := by
  have h10 : MI N c 10 lf := ⟨h.z, fun i => Nat.le_trans (h.le i) hL⟩
  rw [kk_used h, kk_used h10]
  exact kr_lim hL (fun i _ _ => h.le i)
theorem kk_cf {N : Nat} (lf : Nat → Nat) : kk 10 (cf (il N lf)) (il N lf).length = kk 10 lf N := by
  rw [il_len]; exact kk_cong fun i hi => cf_il hi
theorem okL_of {N L : Nat} {lf : Nat → Nat} (hL : L ≤ 10) (h : ∀ i, i < N → lf i ≤ L) : okL (il N lf) := fun j hj => by
  rw [il_len] at hj
  rw [il_at hj]; have := h j hj; omega
/-- what Plan's lengths are -/
structure PQ (cl : List Int) (L : Nat) : Prop where
  z : ∀ i, i < cl.length → (planL cl L i = 0 ↔ cf cl i = 0)
  le : ∀ i, i < cl.length → planL cl L i ≤ L
  e : lensE (planR cl L) = 0
  k : 2 ≤ liv (cf cl) cl.length → kk 10 (planL cl L) cl.length = 1024
  c1 : ∀ r, 2 ≤ liv (cf cl) cl.length → Gr cl.length r (cf cl) → js r (cf cl) ≤ cs (cf cl) (planL cl L) cl.length
  c2 : ∀ r, 2 ≤ liv (cf cl) cl.length → Gr cl.length r (cf cl) → liv (cf cl) cl.length = r.length + 1 → (∀ i, i < cl.length → pln cl.length (cf cl) i ≤ L) → cs (cf cl) (planL cl L) cl.length = js r (cf cl)
theorem plan_pq {cl : List Int} {L : Nat} (h : planE cl L = 0) : PQ cl L := by
  obtain ⟨h1, h2, h3, h4⟩ := planE_inv h
  rw [Int.toNat_natCast] at h4
  have hr := planR_ok h
  by_cases hu : liv (cf cl) cl.length < 2
  · have hp := planL_1 (L := L) hu
    have hz : ∀ i, i < cl.length → (planL cl L i = 0 ↔ cf cl i = 0) := fun i _ => by rw [hp]; simp only []; split <;> omega
    have hle : ∀ i, i < cl.length → planL cl L i ≤ 1 := fun i _ => by rw [hp]; simp only []; split <;> omega
    have hliv : liv (planL cl L) cl.length = liv (cf cl) cl.length := ct_congr fun i hi => by have := hz i hi; omega
    refine ⟨hz, fun i hi => Nat.le_trans (hle i hi) (by omega), ?_, fun e => by omega, fun r e => by omega, fun r e => by omega⟩
    rw [hr]
    have hk : kk 10 (planL cl L) cl.length ≤ 512 ∧ (liv (planL cl L) cl.length = 1 → kk 10 (planL cl L) cl.length = 512) := by
      rcases Nat.lt_or_ge (liv (planL cl L) cl.length) 1 with q | q
      · have h0 := none_used (show liv (planL cl L) cl.length = 0 by omega)
        have : kk 10 (planL cl L) cl.length = 0 := sm_zero fun i hi => by rw [h0 i hi]; rfl
        omega
      · obtain ⟨s, s1, s2, s3, s4, s5⟩ := one_used (fun i hi => Nat.le_trans (hle i hi) (by omega)) (show liv (planL cl L) cl.length = 1 by omega)
        have := hle s s1
        rw [show planL cl L s = 1 by omega] at s4
        rw [s4]; exact ⟨by decide, fun _ => by decide⟩
    unfold lensE
    rw [kk_cf, liv_il, il_len, if_neg (by omega), if_neg (fun e => e (okL_of (L := 1) (by omega) hle)), if_neg (by omega), if_neg (fun e => by have := hk.2; omega)]
  · have hp := planL_2 (L := L) hu
    have hpl := pln_ok h1 (show 2 ≤ liv (cf cl) cl.length by omega)
    obtain ⟨mi, mk⟩ := mend_ok (L := L) (l := pln cl.length (cf cl)) (by omega) h4 (show 2 ≤ liv (cf cl) cl.length by omega) hpl.z
    rw [← hp] at mi mk
    have hk10 : kk 10 (planL cl L) cl.length = 1024 := by
      rw [kk_lim mi (by omega), mk, ← Nat.pow_add, show 10 - L + L = 10 by omega]
    refine ⟨mi.z, fun i _ => mi.le i, ?_, fun _ => hk10, fun r _ hg => ?_, fun r _ hg hl hf => ?_⟩
    · rw [hr]; unfold lensE
      rw [kk_cf, liv_il, il_len, hk10, if_neg (by omega), if_neg (fun e => e (okL_of (L := L) (by omega) (fun i _ => mi.le i))), if_neg (by omega), if_neg (by omega)]
    · exact js_le r _ _ hg (fun i _ _ => mi.le i) (by rw [← kk_used mi, mk]; exact Nat.le_refl _)
    · obtain ⟨r', g1, g2, g3⟩ := hpl.cs
      rw [hp, mend_pln h1 (by omega) (fun i hi => cf_out hi) (by omega) hf, g3]
      exact js_same g1 hg g2 hl
theorem fndI_hit {lf : Nat → Nat} {N : Nat} (h : Lw lf N) {s a k : Nat} (hs : s < N) (hh : hd lf N s a) (hk : lf s ≤ k) (h16 : k ≤ 16) (ha : a < 2 ^ k) : fndI lf N (a : Int) (k : Int) = (s, lf s, 0) := by
  rw [fndI_ok h16 ha, h.fnd_some hs hh hk]
theorem hd_zero {lf : Nat → Nat} {N s : Nat} (h0 : 0 < lf s) : hd lf N s (cd lf N s) := Ln.hd_cd h0
/-- ones behind a code -/
theorem hd_ones {lf : Nat → Nat} {N s : Nat} (h0 : 0 < lf s) (h1 : lf s ≤ 10) : hd lf N s (cd lf N s ||| (65536 - 2 ^ lf s)) ∧ (cd lf N s ||| (65536 - 2 ^ lf s)) < 2 ^ 16 ∧ cd lf N s ||| (65536 - 2 ^ lf s) = cd lf N s + (65536 - 2 ^ lf s) := by
  have hc := Ln.cd_lt (l := lf) (N := N) s
  have e : 65536 - 2 ^ lf s = 2 ^ lf s * (2 ^ (16 - lf s) - 1) := by
    rw [Nat.mul_sub, Nat.mul_one, ← Nat.pow_add, show lf s + (16 - lf s) = 16 by omega]
  have ho : cd lf N s ||| (65536 - 2 ^ lf s) = cd lf N s + (65536 - 2 ^ lf s) := by
    rw [e, Nat.or_comm, ← Nat.two_pow_add_eq_or_of_lt hc]; omega
  have hp : 2 ^ lf s ≤ 65536 := p16 (by omega)
  refine ⟨⟨h0, ?_⟩, by rw [ho]; have : (2 : Nat) ^ 16 = 65536 := rfl; omega, ho⟩
  rw [ho, e, Nat.add_mul_mod_self_left, Nat.mod_eq_of_lt hc]
theorem codF_err {lf : Nat → Nat} {N : Nat} {sym : Int} (h : (codF lf N sym).2.2 = 0) : ∃ s : Nat, sym = s ∧ s < N ∧ 0 < lf s ∧ codF lf N sym = (cd lf N s, lf s, 0) := by
  unfold codF at h ⊢
  split at h
  · rename_i e
    refine ⟨sym.toNat, by omega, by omega, e.2.2, by rw [if_pos e]⟩
  · cases h
end Go.Proofs.Qxb6500404aGreat.HufW
