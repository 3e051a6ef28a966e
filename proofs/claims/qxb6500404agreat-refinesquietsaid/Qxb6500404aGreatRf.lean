import Derived.Test.Qxb6500404aGreatRe
set_option linter.unusedVariables false
set_option linter.unusedSimpArgs false
set_option linter.unusedSectionVars false
namespace Go.Proofs.Qxb6500404aGreat
open Go.Eng Go.Bits Go.Blk HufW
theorem dBM {c : Nat} (h : c < 8) : dM c ≤ 2 ∧ 1 ≤ dB c ∧ dB c + 2 ^ dM c ≤ 17 := by
  rcases (show c = 0 ∨ c = 1 ∨ c = 2 ∨ c = 3 ∨ c = 4 ∨ c = 5 ∨ c = 6 ∨ c = 7 by omega) with e | e | e | e | e | e | e | e <;> subst e <;> decide
/-- k bytes out of the ring -/
def givs (r : SR) (out : List Int) (d : Nat) : Nat → SR
  | 0 => r
  | k + 1 => giv (givs r out d k) ((cpy out d k).getD ((cpy out d k).length - d) 0)
theorem SI.givs {r : SR} {out : List Int} {sent d : Nat} (si : SI r out sent) : ∀ k, out.length + k ≤ 256 → SI (givs r out d k) (cpy out d k) sent
  | 0, _ => si
  | k + 1, h => by
    have := SI.givs si (d := d) k (by omega)
    exact this.give (by rw [cpy_len]; omega) _
theorem givs_same (r : SR) (out : List Int) (d : Nat) : ∀ k, (givs r out d k).held = r.held ∧ (givs r out d k).ph = r.ph ∧ (givs r out d k).fi = r.fi ∧ (givs r out d k).at_ = r.at_ ∧ (givs r out d k).hd = r.hd ∧ (givs r out d k).ls = r.ls ∧ (givs r out d k).fed = r.fed ∧ (givs r out d k).rn = r.rn
  | 0 => ⟨rfl, rfl, rfl, rfl, rfl, rfl, rfl, rfl⟩
  | k + 1 => givs_same r out d k
section mi
variable {raw : ByteArray} {r : SR} {out : List Int} {sent : Nat} {s : TS} {ua ub : HC} {fa fb : Nat → Nat}
theorem MI.bt5 (m : MI raw r out sent s ua ub fa fb) (hp : 5 ≤ r.ph ∧ r.ph ≤ 7) : ua.n = 265 ∧ ub.n = 8 := by
  obtain ⟨_, k2, _, k4, _⟩ := m.ck hp.1 hp.2
  exact ⟨k2, k4⟩
/-! a symbol -/
theorem MI.symEob (m : MI raw r out sent s ua ub fa fb) (hp : r.ph = 5) (e : (syF s fa 265).e = 0) (v : (syF s fa 265).v = 256) : TPo raw r out sent s 0 { r with at_ := s.p, ph := if r.fi = 0 then 0 else 8 } out (if r.fi = 0 then (syF s fa 265).s else syncS (syF s fa 265).s) ua ub := by
  obtain ⟨k1, k2, k3, k4, k5⟩ := m.ck (by omega) (by omega)
  have hlt := sy_lt e
  have had := sy_ad s fa 265
  have ho := sy_OK (lf := fa) (N := 265) m.w.ok
  have hhd := m.w.hd
  have hon := ho.2.1
  have hn := had.n
  have w1 := m.adv (r' := { r with at_ := s.p }) had ho rfl rfl rfl rfl rfl rfl rfl m.w.l10 (by simp only []; omega) (by simp only []; omega) m.w.fi rfl
  refine m.shut w1 ?_ (.inl ⟨k2, k4⟩) had (by unfold mz; rw [if_neg (by omega)]; omega)
  have g := m.gx
  rw [rs5 hp] at g
  have hw : Huf.Lw fa 265 := by rw [← k2]; exact k1.lw
  exact Gx.sym (r' := fun t => enD r.fi t out) hw g e (fun t ht h1 h2 h3 => by
    rw [sy_eob h1 (by rw [h2]; exact v)])
theorem MI.symLit (m : MI raw r out sent s ua ub fa fb) (hp : r.ph = 5) (e : (syF s fa 265).e = 0) (v : (syF s fa 265).v < 256) (ho : ¬ 256 ≤ out.length) : TPo raw r out sent s 0 (giv { r with at_ := s.p } ((syF s fa 265).v : Int)) (out ++ [((syF s fa 265).v : Int)]) (syF s fa 265).s ua ub := by
  obtain ⟨k1, k2, k3, k4, k5⟩ := m.ck (by omega) (by omega)
  have hlt := sy_lt e
  have had := sy_ad s fa 265
  have oo := sy_OK (lf := fa) (N := 265) m.w.ok
  have hon := oo.2.1
  have hn := had.n
  have wg := m.give (r1 := { r with at_ := s.p }) (c := ((syF s fa 265).v : Int)) (by omega) had oo rfl rfl rfl rfl rfl rfl rfl rfl (by simp only []; omega) rfl rfl rfl (.inl ⟨k2, k4⟩)
  refine .inl ⟨rfl, ⟨fa, fb, wg, ?_, fun _ _ => ⟨k1, k2, k3, k4, k5⟩, fun z => by simp only [giv] at z; omega, fun z => by simp only [giv] at z; omega, fun z => by simp only [giv] at z; omega, fun z => by simp only [giv] at z; omega, fun z => by simp only [giv] at z; omega, .inl ⟨k2, k4⟩, by simp only [giv]; omega⟩, ?_⟩
  · rw [rs5 (show (giv { r with at_ := s.p } ((syF s fa 265).v : Int)).ph = 5 from hp)]
    have g := m.gx
    rw [rs5 hp] at g
    have hw : Huf.Lw fa 265 := by rw [← k2]; exact k1.lw
    exact Gx.sym (r' := fun t => syD r.fi fa fb t (out ++ [((syF s fa 265).v : Int)])) hw g e (fun t ht h1 h2 h3 => by
      rw [sy_lit ht h1 (by rw [h2]; exact v) ho, h2])
  · unfold mz; simp only [giv]; rw [if_neg (by omega)]; omega
theorem MI.symLen (m : MI raw r out sent s ua ub fa fb) (hp : r.ph = 5) (e : (syF s fa 265).e = 0) (v : 256 < (syF s fa 265).v) : TPo raw r out sent s 0 { r with at_ := s.p, rn := (syF s fa 265).v - 254, ph := 6 } out (syF s fa 265).s ua ub := by
  obtain ⟨k1, k2, k3, k4, k5⟩ := m.ck (by omega) (by omega)
  have hlt := sy_lt e
  have hv := (sy_ok e).1
  have had := sy_ad s fa 265
  have oo := sy_OK (lf := fa) (N := 265) m.w.ok
  have hon := oo.2.1
  have hn := had.n
  have hhd := m.w.hd
  refine .inl ⟨rfl, ⟨fa, fb, m.adv had oo rfl rfl rfl rfl rfl rfl rfl m.w.l10 (by simp only []; omega) (by simp only []; omega) m.w.fi rfl, ?_, fun _ _ => ⟨k1, k2, k3, k4, k5⟩, fun z => by simp only [] at z; omega, fun z => by simp only [] at z; omega, fun z => by simp only [] at z; omega, fun _ => by simp only []; omega, fun z => by simp only [] at z; omega, .inl ⟨k2, k4⟩, by simp only []; omega⟩, ?_⟩
  · rw [rs6 rfl]
    have g := m.gx
    rw [rs5 hp] at g
    have hw : Huf.Lw fa 265 := by rw [← k2]; exact k1.lw
    exact Gx.sym (r' := fun t => dsD r.fi fa fb s.p ((syF s fa 265).v - 254) t out) hw g e (fun t ht h1 h2 h3 => by
      rw [sy_len ht h1 (by rw [h2]; exact v), h2, h3])
  · unfold mz; rw [hp]; simp only []; rw [if_neg (by omega), if_neg (by omega)]; omega
/-! its distance -/
theorem MI.dist (m : MI raw r out sent s ua ub fa fb) (hp : r.ph = 6) (e : (syF s fb 8).e = 0) : TPo raw r out sent s 0 { r with ba := dB (syF s fb 8).v, mo := dM (syF s fb 8).v, ph := 7 } out (syF s fb 8).s ua ub := by
  obtain ⟨k1, k2, k3, k4, k5⟩ := m.ck (by omega) (by omega)
  have hlt := sy_lt e
  have hv := (sy_ok e).1
  have had := sy_ad s fb 8
  have oo := sy_OK (lf := fb) (N := 8) m.w.ok
  have hon := oo.2.1
  have hn := had.n
  have hhd := m.w.hd
  have hat := m.w.at_
  have hrn := m.rn (.inl hp)
  obtain ⟨d1, d2, d3⟩ := dBM hv
  refine .inl ⟨rfl, ⟨fa, fb, m.adv had oo rfl rfl rfl rfl rfl rfl rfl m.w.l10 (by simp only []; omega) (by simp only []; omega) m.w.fi rfl, ?_, fun _ _ => ⟨k1, k2, k3, k4, k5⟩, fun z => by simp only [] at z; omega, fun z => by simp only [] at z; omega, fun z => by simp only [] at z; omega, fun _ => hrn, fun _ => ⟨d1, d2, d3⟩, .inl ⟨k2, k4⟩, by simp only []; omega⟩, ?_⟩
  · rw [rs7 rfl]
    have g := m.gx
    rw [rs6 hp] at g
    have hw : Huf.Lw fb 8 := by rw [← k4]; exact k3.lw
    exact Gx.sym (r' := fun t => moD r.fi fa fb r.at_ r.rn (dB (syF s fb 8).v) (dM (syF s fb 8).v) t out) hw g e (fun t ht h1 h2 h3 => by
      rw [ds_go h1, h2])
  · unfold mz; rw [hp]; simp only [if_true]; rw [if_neg (by omega)]; omega
/-! the further bits, the copy -/
theorem MI.more (m : MI raw r out sent s ua ub fa fb) (hp : r.ph = 7) (e : skipE s r.mo = 0) (h1 : ¬ out.length < r.ba + takeV s r.mo) (h2 : ¬ 256 < out.length + r.rn) : TPo raw r out sent s 0 { givs r out (r.ba + takeV s r.mo) r.rn with ph := 5 } (cpy out (r.ba + takeV s r.mo) r.rn) (skipS s r.mo) ua ub := by
  obtain ⟨k1, k2, k3, k4, k5⟩ := m.ck (by omega) (by omega)
  have had := skip_ad s r.mo
  have oo := m.w.ok.skip r.mo
  have hon := oo.2.1
  have hn := had.n
  have hp1 := had.p
  have hhd := m.w.hd
  have hat := m.w.at_
  have w := m.w
  have sg := SI.givs (d := r.ba + takeV s r.mo) w.si r.rn (by omega)
  obtain ⟨g1, g2, g3, g4, g5, g6, g7, g8⟩ := givs_same r out (r.ba + takeV s r.mo) r.rn
  refine .inl ⟨rfl, ⟨fa, fb, ⟨⟨sg.tt, sg.w, sg.fl, sg.n, sg.le, sg.rg, sg.bf⟩, by rw [had.N]; exact w.N, by rw [hn]; exact w.n, oo, w.z, by simp only []; rw [g7]; exact w.fed, by simp only []; rw [g6]; exact w.l10, by simp only []; omega, by simp only []; omega, by simp only []; rw [g3]; exact w.fi, by simp only []; rw [g1]; exact w.hl, .inl ⟨k2, k4⟩⟩, ?_, fun _ _ => ⟨k1, k2, k3, k4, k5⟩, fun z => by simp only [] at z; omega, fun z => by simp only [] at z; omega, fun z => by simp only [] at z; omega, fun z => by simp only [] at z; omega, fun z => by simp only [] at z; omega, .inl ⟨k2, k4⟩, by simp only []; omega⟩, ?_⟩
  · rw [rs5 rfl]
    have g := m.gx
    rw [rs7 hp] at g
    have := g.take (k := r.mo) (r' := fun t => syD r.fi fa fb t (cpy out (r.ba + takeV s r.mo) r.rn)) e (fun t ht h8 h9 h10 h11 => by
      rw [mo_go h9 (by rw [h10]; exact h1) h2, h10])
    simp only []
    rw [g3]; exact this
  · unfold mz; rw [hp]; simp only [if_true]; rw [if_neg (by omega)]; omega
end mi
end Go.Proofs.Qxb6500404aGreat
