import Derived.Test.Qxb6500404aGreatRc
set_option linter.unusedVariables false
set_option linter.unusedSimpArgs false
set_option linter.unusedSectionVars false
namespace Go.Proofs.Qxb6500404aGreat
open Go.Eng Go.Bits Go.Blk HufW
theorem c1 : ((1 : Nat) : Int) = 1 := rfl
theorem c2 : ((2 : Nat) : Int) = 2 := rfl
theorem c4 : ((4 : Nat) : Int) = 4 := rfl
theorem c8 : ((8 : Nat) : Int) = 8 := rfl
theorem c16 : ((16 : Nat) : Int) = 16 := rfl
/-- bit k of a tape that holds raw, within its first byte -/
theorem kind0 {raw : ByteArray} {s : TS} (hN : s.N = numS raw) (hn : s.n = 8 * raw.size) (hp : s.p = 1) (e : skipE s 2 = 0) : 0 < raw.size ∧ takeV s 2 = bAt raw 0 / 2 % 4 := by
  have hz : 0 < raw.size := by
    unfold skipE at e
    split at e
    · cases e
    · split at e
      · cases e
      · omega
  refine ⟨hz, ?_⟩
  have hb : byteN (numS raw) 0 = bAt raw 0 := by
    unfold numS; rw [numF_byte (Go.Bits.bAt_lt _), if_pos hz]
  rw [← hb]
  unfold takeV; rw [if_pos e]
  unfold peekN byteN
  rw [hN, hp, show (2 : Int).toNat = 2 from rfl]
  refine Nat.eq_of_testBit_eq fun j => ?_
  rw [Nat.testBit_mod_two_pow, Go.Bits.div_bit, show (4 : Nat) = 2 ^ 2 from rfl, Nat.testBit_mod_two_pow, show numS raw / 2 ^ (8 * 0) % 256 / 2 = numS raw / 2 ^ (8 * 0) % 256 / 2 ^ 1 by rw [Nat.pow_one], Go.Bits.div_bit, show (256 : Nat) = 2 ^ 8 from rfl, Nat.testBit_mod_two_pow, Go.Bits.div_bit]
  by_cases hj : j < 2
  · simp [hj, show 1 + j < 8 by omega]
  · simp [hj]
section mi
variable {raw : ByteArray} {r : SR} {out : List Int} {sent : Nat} {s : TS} {ua ub : HC} {fa fb : Nat → Nat}
/-! kind -/
theorem MI.kindK0 (m : MI raw r out sent s ua ub fa fb) (hp : r.ph = 1) (e : skipE s 2 = 0) (k : takeV s 2 = 0) : (ua.n = 265 ∧ ub.n = 8) ∨ K0 raw := by
  rcases m.jm with q | q | ⟨_, q⟩
  · exact .inl q
  · exact .inr q
  · have hp1 : s.p = 1 := by omega
    obtain ⟨z1, z2⟩ := kind0 m.w.N m.w.n hp1 e
    exact .inr ⟨z1, by rw [← z2]; exact k⟩
theorem MI.kind0 (m : MI raw r out sent s ua ub fa fb) (hp : r.ph = 1) (e : skipE s 2 = 0) (k : takeV s 2 = 0) : TPo raw r out sent s 0 { r with at_ := s.p, hd := s.p + 2, ph := 2 } out (syncS (skipS s 2)) ua ub := by
  have ok := m.w.ok
  have p1 := skip_p (s := s) (k := 2) (by rw [c2]; exact e)
  rw [c2] at p1
  have ho := ok.skip 2
  have hn8 : (skipS s 2).n % 8 = 0 := by rw [(skip_ad s 2).n, m.w.n]; omega
  have had := (skip_ad s 2).trans (sync_ad ho)
  have hon := ho.sync.2.1
  have hn := had.n
  have hq := (sync_ad ho).p
  refine .inl ⟨rfl, ⟨fa, fb, m.adv had ho.sync rfl rfl rfl rfl rfl rfl rfl m.w.l10 (by simp only []; omega) (by simp only []; omega) m.w.fi rfl, ?_, fun z => by simp only [] at z; omega, fun _ => sync8 ho hn8, fun z => by simp only [] at z; omega, fun z => by simp only [] at z; omega, fun z => by simp only [] at z; omega, fun z => by simp only [] at z; omega, ?_, by simp only []; omega⟩, ?_⟩
  · rw [rs2 rfl]
    have g := m.gx
    rw [rs1 hp] at g
    have := g.take (k := 2) (r' := fun t => szD r.fi (syncS t) out) (by rw [c2]; exact e) (fun t ht h8 h9 h10 h11 => by
      rw [c2] at h9 h10 ⊢
      rw [kn_0 h9 (by rw [h10]; exact k)])
    exact Gx.sync ho hn8 this
  · rcases m.kindK0 hp e k with q | q
    · exact .inl q
    · exact .inr (.inl q)
  · unfold mz; rw [hp]; simp only []; rw [if_neg (by omega), if_neg (by omega)]; omega
theorem MI.kind2 (m : MI raw r out sent s ua ub fa fb) (hp : r.ph = 1) (e : skipE s 2 = 0) (k : takeV s 2 = 2) : TPo raw r out sent s 0 { r with at_ := s.p, hd := s.p + 2, ix := 0, ph := 4 } out (skipS s 2) ua ub := by
  have ok := m.w.ok
  have p1 := skip_p (s := s) (k := 2) (by rw [c2]; exact e)
  rw [c2] at p1
  have ho := ok.skip 2
  have had := skip_ad s 2
  have hon := ho.2.1
  have hn := had.n
  refine .inl ⟨rfl, ⟨fa, fb, m.adv had ho rfl rfl rfl rfl rfl rfl rfl m.w.l10 (by simp only []; omega) (by simp only []; omega) m.w.fi rfl, ?_, fun z => by simp only [] at z; omega, fun z => by simp only [] at z; omega, fun z => by simp only [] at z; omega, fun z => by simp only [] at z; simp only []; omega, fun z => by simp only [] at z; omega, fun z => by simp only [] at z; omega, ?_, by simp only []; omega⟩, ?_⟩
  · rw [rs4 rfl]
    have g := m.gx
    rw [rs1 hp] at g
    have := g.take (k := 2) (r' := fun t => lsD r.fi (s.p + 2) [] t out) (by rw [c2]; exact e) (fun t ht h8 h9 h10 h11 => by
      have p2 := skip_p (s := t) (k := 2) h9
      rw [c2] at h9 h10 p2 ⊢
      rw [kn_2 h9 (by rw [h10]; exact k), p2, h11])
    exact this
  · rcases m.jm with q | q | ⟨q, _⟩
    · exact .inl q
    · exact .inr (.inl q)
    · exact .inr (.inr ⟨q, .inr (.inr rfl)⟩)
  · unfold mz; rw [hp]; simp only []; rw [if_neg (by omega), if_neg (by omega)]; omega
theorem MI.kind1 (m : MI raw r out sent s ua ub fa fb) (hp : r.ph = 1) (e : skipE s 2 = 0) (k : takeV s 2 = 1) {r' : SR} {va vb : HC} (h1 : r'.tt = r.tt) (h2 : r'.w = r.w) (h3 : r'.fl = r.fl) (h4 : r'.n = r.n) (h5 : r'.rg = r.rg) (h6 : r'.bf = r.bf) (h7 : r'.fed = r.fed) (h8 : ∀ j, j < 273 → r'.ls j ≤ 10) (h9 : r'.at_ ≤ s.p + 2) (h10 : r'.hd = s.p + 2) (h11 : r'.fi = r.fi) (h12 : r'.ph = 5) (hk : CK va (Huf.cf (lA fixL)) ∧ va.n = 265 ∧ CK vb (Huf.cf (lB fixL)) ∧ vb.n = 8) : TPo raw r out sent s 0 r' out (skipS s 2) va vb := by
  have w := m.w
  have si := w.si
  have p1 := skip_p (s := s) (k := 2) (by rw [c2]; exact e)
  rw [c2] at p1
  have ho := w.ok.skip 2
  have had := skip_ad s 2
  have hon := ho.2.1
  have hn := had.n
  have hfi := w.fi
  have hE : 0 < Huf.cf (lA fixL) 256 := by rw [cf_lA (by omega), fix_at (by omega)]; simp
  refine .inl ⟨rfl, ⟨Huf.cf (lA fixL), Huf.cf (lB fixL), ⟨⟨by rw [h1]; exact si.tt, by rw [h2]; exact si.w, by rw [h3]; exact si.fl, by rw [h4]; exact si.n, si.le, by rw [h5]; exact si.rg, by rw [h4, h6]; exact si.bf⟩, by rw [had.N]; exact w.N, by rw [had.n]; exact w.n, ho, w.z, by rw [h7]; exact w.fed, h8, by omega, by omega, by omega, fun _ => hk, .inl ⟨hk.2.1, hk.2.2.2⟩⟩, ?_, fun _ _ => ⟨hk.1, hk.2.1, hk.2.2.1, hk.2.2.2, hE⟩, fun z => by omega, fun z => by omega, fun z => by omega, fun z => by omega, fun z => by omega, .inl ⟨hk.2.1, hk.2.2.2⟩, by omega⟩, ?_⟩
  · rw [rs5 h12]
    have g := m.gx
    rw [rs1 hp] at g
    have := g.take (k := 2) (r' := fun t => syD r.fi (Huf.cf (lA fixL)) (Huf.cf (lB fixL)) t out) (by rw [c2]; exact e) (fun t ht h8 h9 h10 h11 => by
      rw [c2] at h9 h10 ⊢
      rw [kn_1 h9 (by rw [h10]; exact k), co_go fix_e])
    rw [h11]; exact this
  · unfold mz; rw [hp, h12, if_neg (by omega), if_neg (by omega)]; omega
theorem MI.kind3 (m : MI raw r out sent s ua ub fa fb) (hp : r.ph = 1) (e : skipE s 2 = 0) (k0 : takeV s 2 ≠ 0) (k1 : takeV s 2 ≠ 1) (k2 : takeV s 2 ≠ 2) : TPo raw r out sent s 5 { r with at_ := s.p, hd := s.p + 2 } out (skipS s 2) ua ub := by
  have p1 := skip_p (s := s) (k := 2) (by rw [c2]; exact e)
  rw [c2] at p1
  have ho := m.w.ok.skip 2
  refine .inr ⟨by omega, rfl, fun z => by omega, m.adv (skip_ad s 2) ho rfl rfl rfl rfl rfl rfl rfl m.w.l10 (by simp only []; omega) (by simp only []; omega) m.w.fi rfl, skipS s 2, ?_⟩
  rw [m.now, rs1 hp]; exact kn_3 e k0 k1 k2
/-- a block ends -/
theorem MI.shut (m : MI raw r out sent s ua ub fa fb) {r1 : SR} {out1 : List Int} {s1 : TS} (w1 : WI raw r1 out1 sent s1 ua ub) (g : Gx (fun t => enD r1.fi t out1) s1) (hb : (ua.n = 265 ∧ ub.n = 8) ∨ K0 raw) (had : Ad s s1) (hlt : 2 * (s1.n - s1.p) < mz r s) : TPo raw r out sent s 0 { r1 with ph := if r1.fi = 0 then 0 else 8 } out1 (if r1.fi = 0 then s1 else syncS s1) ua ub := by
  have hn8 : s1.n % 8 = 0 := by rw [w1.n]; omega
  have hj : ∀ (p : Prop), (ua.n = 265 ∧ ub.n = 8) ∨ K0 raw ∨ p := fun p => by rcases hb with q | q; (exact .inl q); (exact .inr (.inl q))
  by_cases hf : r1.fi = 0
  · rw [if_pos hf, if_pos hf]
    refine .inl ⟨rfl, ⟨fa, fb, ⟨⟨w1.si.tt, w1.si.w, w1.si.fl, w1.si.n, w1.si.le, w1.si.rg, w1.si.bf⟩, w1.N, w1.n, w1.ok, w1.z, w1.fed, w1.l10, w1.at_, w1.hd, w1.fi, w1.hl, w1.jw⟩, ?_, fun z => by simp only [] at z; omega, fun z => by simp only [] at z; omega, fun z => by simp only [] at z; omega, fun z => by simp only [] at z; omega, fun z => by simp only [] at z; omega, fun z => by simp only [] at z; omega, hj _, by simp only []; omega⟩, ?_⟩
    · rw [rs0 rfl]
      exact g.same fun t _ _ _ => en_0 hf
    · unfold mz; simp only []; rw [if_neg (by omega : ¬ (0 = 7))]; exact hlt
  · rw [if_neg hf, if_neg hf]
    have hq := (sync_ad w1.ok).p
    have hnn := (sync_ad w1.ok).n
    have ha := w1.at_
    have hh := w1.hd
    refine .inl ⟨rfl, ⟨fa, fb, ⟨⟨w1.si.tt, w1.si.w, w1.si.fl, w1.si.n, w1.si.le, w1.si.rg, w1.si.bf⟩, w1.N, w1.n, w1.ok.sync, w1.z, w1.fed, w1.l10, by simp only []; omega, by simp only []; omega, w1.fi, w1.hl, w1.jw⟩, ?_, fun _ z => by simp only [] at z; omega, fun _ => sync8 w1.ok hn8, fun z => by simp only [] at z; omega, fun z => by simp only [] at z; omega, fun z => by simp only [] at z; omega, fun z => by simp only [] at z; omega, hj _, by simp only []; omega⟩, ?_⟩
    · rw [rs8 rfl]
      exact Gx.sync w1.ok hn8 (g.same fun t _ _ _ => en_1 hf)
    · unfold mz at *; simp only []; rw [if_neg (by omega : ¬ (8 = 7))]; omega
/-! size -/
theorem MI.size0 (m : MI raw r out sent s ua ub fa fb) (hp : r.ph = 2) (e : skipE s 16 = 0) (v : takeV s 16 = 0) : TPo raw r out sent s 0 { r with at_ := s.p, du := takeV s 16, ph := if r.fi = 0 then 0 else 8 } out (if r.fi = 0 then skipS s 16 else syncS (skipS s 16)) ua ub := by
  have p1 := skip_p (s := s) (k := 16) (by rw [c16]; exact e)
  rw [c16] at p1
  have ho := m.w.ok.skip 16
  have had := skip_ad s 16
  have hhd := m.w.hd
  have hon := ho.2.1
  have hn := had.n
  have w1 := m.adv (r' := { r with at_ := s.p, du := takeV s 16, ph := 3 }) had ho rfl rfl rfl rfl rfl rfl rfl m.w.l10 (by simp only []; omega) (by simp only []; omega) m.w.fi rfl
  refine m.shut w1 ?_ (m.bt (by omega)) had (by unfold mz; rw [if_neg (by omega)]; omega)
  have g := m.gx
  rw [rs2 hp] at g
  have := g.take (k := 16) (r' := fun t => enD r.fi t out) (by rw [c16]; exact e) (fun t ht h8 h9 h10 h11 => by
    rw [c16] at h9 h10 ⊢
    rw [sz_0 h9 (by rw [h10]; exact v)])
  exact this
theorem MI.size1 (m : MI raw r out sent s ua ub fa fb) (hp : r.ph = 2) (e : skipE s 16 = 0) (v : takeV s 16 ≠ 0) : TPo raw r out sent s 0 { r with at_ := s.p, du := takeV s 16, ph := 3 } out (skipS s 16) ua ub := by
  have p1 := skip_p (s := s) (k := 16) (by rw [c16]; exact e)
  rw [c16] at p1
  have ho := m.w.ok.skip 16
  have had := skip_ad s 16
  have hhd := m.w.hd
  have hon := ho.2.1
  have hn := had.n
  have h8 := m.p8 (.inl hp)
  have hv : takeV s 16 < 65536 := take_lt (k := 16) (by omega)
  refine .inl ⟨rfl, ⟨fa, fb, m.adv had ho rfl rfl rfl rfl rfl rfl rfl m.w.l10 (by simp only []; omega) (by simp only []; omega) m.w.fi rfl, ?_, fun z => by simp only [] at z; omega, fun _ => by omega, fun _ => by simp only []; omega, fun z => by simp only [] at z; omega, fun z => by simp only [] at z; omega, fun z => by simp only [] at z; omega, ?_, by simp only []; omega⟩, ?_⟩
  · rw [rs3 rfl]
    have g := m.gx
    rw [rs2 hp] at g
    have := g.take (k := 16) (r' := fun t => byD r.fi (takeV s 16) t out) (by rw [c16]; exact e) (fun t ht h8 h9 h10 h11 => by
      rw [c16] at h9 h10 ⊢
      rw [sz_1 h9 (by rw [h10]; exact v), h10])
    exact this
  · rcases m.bt (by omega) with q | q
    · exact .inl q
    · exact .inr (.inl q)
  · unfold mz; rw [hp]; simp only []; rw [if_neg (by omega), if_neg (by omega)]; omega
/-! bytes -/
theorem MI.give (m : MI raw r out sent s ua ub fa fb) {r1 : SR} {s1 : TS} {c : Int} (h : out.length < 256) (had : Ad s s1) (ho : OK s1) (h1 : r1.tt = r.tt) (h2 : r1.w = r.w) (h3 : r1.fl = r.fl) (h4 : r1.n = r.n) (h5 : r1.rg = r.rg) (h6 : r1.bf = r.bf) (h7 : r1.fed = r.fed) (h8 : r1.ls = r.ls) (h9 : r1.at_ ≤ s1.p) (h10 : r1.hd = r.hd) (h11 : r1.fi = r.fi) (h12 : r1.held = r.held) (hb : (ua.n = 265 ∧ ub.n = 8) ∨ K0 raw) : WI raw (giv r1 c) (out ++ [c]) sent s1 ua ub := by
  have hp := had.p
  have hhd := m.w.hd
  have w1 := m.adv (r' := r1) had ho h1 h2 h3 h4 h5 h6 h7 (by rw [h8]; exact m.w.l10) h9 (by rw [h10]; omega) (by rw [h11]; exact m.w.fi) h12
  exact ⟨w1.si.give h c, w1.N, w1.n, w1.ok, w1.z, w1.fed, w1.l10, w1.at_, w1.hd, w1.fi, w1.hl, by rcases hb with q | q; (exact .inl q); (exact .inr (.inl q))⟩
theorem MI.byte1 (m : MI raw r out sent s ua ub fa fb) (hp : r.ph = 3) (e : skipE s 8 = 0) (ho : ¬ 256 ≤ out.length) (hd : 1 < r.du) : TPo raw r out sent s 0 { giv { r with at_ := s.p } (takeV s 8 : Int) with du := r.du - 1 } (out ++ [(takeV s 8 : Int)]) (skipS s 8) ua ub := by
  have p1 := skip_p (s := s) (k := 8) (by rw [c8]; exact e)
  rw [c8] at p1
  have oo := m.w.ok.skip 8
  have had := skip_ad s 8
  have hon := oo.2.1
  have hn := had.n
  have h8 := m.p8 (.inr (.inl hp))
  have hdu := m.du hp
  have wg := m.give (r1 := { r with at_ := s.p }) (c := (takeV s 8 : Int)) (by omega) had oo rfl rfl rfl rfl rfl rfl rfl rfl (by simp only []; omega) rfl rfl rfl (m.bt (by omega))
  refine .inl ⟨rfl, ⟨fa, fb, ⟨⟨wg.si.tt, wg.si.w, wg.si.fl, wg.si.n, wg.si.le, wg.si.rg, wg.si.bf⟩, wg.N, wg.n, wg.ok, wg.z, wg.fed, wg.l10, wg.at_, wg.hd, wg.fi, wg.hl, wg.jw⟩, ?_, fun z z2 => by simp only [giv] at z; omega, fun _ => by omega, fun _ => by simp only []; omega, fun z => by simp only [giv] at z; omega, fun z => by simp only [giv] at z; omega, fun z => by simp only [giv] at z; omega, ?_, by simp only [giv]; omega⟩, ?_⟩
  · rw [rs3 (show ({ giv { r with at_ := s.p } (takeV s 8 : Int) with du := r.du - 1 } : SR).ph = 3 from hp)]
    have g := m.gx
    rw [rs3 hp] at g
    have := g.take (k := 8) (r' := fun t => byD r.fi (r.du - 1) t (out ++ [(takeV s 8 : Int)])) (by rw [c8]; exact e) (fun t ht h8 h9 h10 h11 => by
      rw [c8] at h9 h10 ⊢
      rw [by_go hd h9 ho, h10])
    exact this
  · rcases m.bt (by omega) with q | q
    · exact .inl q
    · exact .inr (.inl q)
  · unfold mz; simp only [giv]; rw [if_neg (by omega)]; omega
theorem MI.byte0 (m : MI raw r out sent s ua ub fa fb) (hp : r.ph = 3) (e : skipE s 8 = 0) (ho : ¬ 256 ≤ out.length) (hd : r.du = 1) : TPo raw r out sent s 0 { giv { r with at_ := s.p } (takeV s 8 : Int) with du := 0, ph := if r.fi = 0 then 0 else 8 } (out ++ [(takeV s 8 : Int)]) (if r.fi = 0 then skipS s 8 else syncS (skipS s 8)) ua ub := by
  have p1 := skip_p (s := s) (k := 8) (by rw [c8]; exact e)
  rw [c8] at p1
  have oo := m.w.ok.skip 8
  have had := skip_ad s 8
  have hon := oo.2.1
  have hn := had.n
  have wg := m.give (r1 := { r with at_ := s.p }) (c := (takeV s 8 : Int)) (by omega) had oo rfl rfl rfl rfl rfl rfl rfl rfl (by simp only []; omega) rfl rfl rfl (m.bt (by omega))
  have w1 : WI raw { giv { r with at_ := s.p } (takeV s 8 : Int) with du := 0 } (out ++ [(takeV s 8 : Int)]) sent (skipS s 8) ua ub := ⟨⟨wg.si.tt, wg.si.w, wg.si.fl, wg.si.n, wg.si.le, wg.si.rg, wg.si.bf⟩, wg.N, wg.n, wg.ok, wg.z, wg.fed, wg.l10, wg.at_, wg.hd, wg.fi, wg.hl, wg.jw⟩
  refine m.shut w1 ?_ (m.bt (by omega)) had (by unfold mz; rw [if_neg (by omega)]; omega)
  have g := m.gx
  rw [rs3 hp] at g
  have := g.take (k := 8) (r' := fun t => enD r.fi t (out ++ [(takeV s 8 : Int)])) (by rw [c8]; exact e) (fun t ht h8 h9 h10 h11 => by
    rw [c8] at h9 h10 ⊢
    rw [hd, by_end h9 ho, h10])
  exact this
end mi
end Go.Proofs.Qxb6500404aGreat
