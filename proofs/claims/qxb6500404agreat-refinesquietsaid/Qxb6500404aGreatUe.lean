import Derived.Test.Qxb6500404aGreatUd
set_option linter.unusedVariables false
set_option linter.unusedSimpArgs false
namespace Go.Proofs.Qxb6500404aGreat
open Go.Eng Go.Bits Go.Blk HufW Go.Arc

abbrev In := ByteArray × Nat × Nat
/-- a fresh list of entries: nil, or a block of just these -/
def EA (lo : Nat) (h : Heap) (a : Option Addr) (E : List En) : Prop := (a = none ∧ E = []) ∨ ∃ b cs, a = some ⟨b, 0, none⟩ ∧ lo ≤ b ∧ B h b cs 104 ∧ cs.size = E.length * 2 ∧ ∀ i, i < E.length → cs[i * 2]? = some (.string (ga E i).1) ∧ cs[i * 2 + 1]? = some (.string (ga E i).2)
def IA (lo : Nat) (h : Heap) (a : Option Addr) (L : List In) : Prop := (a = none ∧ L = []) ∨ ∃ b cs, a = some ⟨b, 0, none⟩ ∧ lo ≤ b ∧ B h b cs 122 ∧ cs.size = L.length * 3 ∧ ∀ i, i < L.length → cs[i * 3]? = some (.string (gi L i).1) ∧ cs[i * 3 + 1]? = some (.int .i64 (((gi L i).2.1 : Nat) : Int)) ∧ cs[i * 3 + 2]? = some (.int .i64 (((gi L i).2.2 : Nat) : Int))
theorem EA.ext {lo : Nat} {h h' : Heap} {a : Option Addr} {E : List En} {S : Nat → Prop} (v : EA lo h a E) (he : Ext S h h') (hs : ∀ z, lo ≤ z → blkA a = some z → ¬ S z) : EA lo h' a E := by
  rcases v with v | ⟨b, cs, e, h1, h2, h3⟩
  · exact .inl v
  · exact .inr ⟨b, cs, e, h1, h2.ext he (hs b h1 (by rw [e]; rfl)), h3⟩
theorem IA.ext {lo : Nat} {h h' : Heap} {a : Option Addr} {L : List In} {S : Nat → Prop} (v : IA lo h a L) (he : Ext S h h') (hs : ∀ z, lo ≤ z → blkA a = some z → ¬ S z) : IA lo h' a L := by
  rcases v with v | ⟨b, cs, e, h1, h2, h3⟩
  · exact .inl v
  · exact .inr ⟨b, cs, e, h1, h2.ext he (hs b h1 (by rw [e]; rfl)), h3⟩
theorem EA.lo {lo lo' : Nat} {h : Heap} {a : Option Addr} {E : List En} (v : EA lo h a E) (hl : lo' ≤ lo) : EA lo' h a E := by
  rcases v with v | ⟨b, cs, e, h1, q⟩
  · exact .inl v
  · exact .inr ⟨b, cs, e, by omega, q⟩
theorem IA.lo {lo lo' : Nat} {h : Heap} {a : Option Addr} {L : List In} (v : IA lo h a L) (hl : lo' ≤ lo) : IA lo' h a L := by
  rcases v with v | ⟨b, cs, e, h1, q⟩
  · exact .inl v
  · exact .inr ⟨b, cs, e, by omega, q⟩
theorem EA.ev {lo : Nat} {h : Heap} {a : Option Addr} {E : List En} (v : EA lo h a E) : EV lo h a E := by
  rcases v with ⟨_, v⟩ | ⟨b, cs, e, h1, h2, h3, h4⟩
  · exact .inl v
  · exact .inr ⟨b, e, h1, h2.lt, fun i hi => by rw [h2.cell, h2.cell]; exact h4 i hi⟩
/-- rows, read -/
def IV (h : Heap) (a : Option Addr) (L : List In) : Prop := L = [] ∨ ∃ b, a = some ⟨b, 0, none⟩ ∧ ∀ i, i < L.length → cellH h ⟨b, i * 3, none⟩ = some (.string (gi L i).1) ∧ cellH h ⟨b, i * 3 + 1, none⟩ = some (.int .i64 (((gi L i).2.1 : Nat) : Int)) ∧ cellH h ⟨b, i * 3 + 2, none⟩ = some (.int .i64 (((gi L i).2.2 : Nat) : Int))
theorem IV.get {h : Heap} {a : Option Addr} {L : List In} (v : IV h a L) {i : Nat} (hi : i < L.length) : ∃ b, a = some ⟨b, 0, none⟩ ∧ ∀ i, i < L.length → cellH h ⟨b, i * 3, none⟩ = some (.string (gi L i).1) ∧ cellH h ⟨b, i * 3 + 1, none⟩ = some (.int .i64 (((gi L i).2.1 : Nat) : Int)) ∧ cellH h ⟨b, i * 3 + 2, none⟩ = some (.int .i64 (((gi L i).2.2 : Nat) : Int)) := by
  rcases v with rfl | v
  · simp at hi
  · exact v
theorem IA.iv {lo : Nat} {h : Heap} {a : Option Addr} {L : List In} (v : IA lo h a L) : IV h a L := by
  rcases v with ⟨_, v⟩ | ⟨b, cs, e, h1, h2, h3, h4⟩
  · exact .inl v
  · exact .inr ⟨b, e, fun i hi => by rw [h2.cell, h2.cell, h2.cell]; exact h4 i hi⟩
theorem set_eq {cs : Array Value} {i : Nat} {v : Value} (h : i < cs.size) : (cs.setIfInBounds i v)[i]? = some v := by
  rw [Array.getElem?_setIfInBounds, if_pos rfl, if_pos h]
theorem set_ne {cs : Array Value} {i j : Nat} {v : Value} (h : i ≠ j) : (cs.setIfInBounds i v)[j]? = cs[j]? := by
  rw [Array.getElem?_setIfInBounds, if_neg h]
theorem fr_cnt {raw : ByteArray} (h : (frF raw).2.1 = 0) : (frF raw).1 = cnt raw := by
  unfold frF at h ⊢
  by_cases c2 : (tlF raw).2.2.1 ≠ 0
  · rw [if_pos c2] at h; exact absurd h c2
  rw [if_neg c2] at h ⊢
  by_cases c3 : (frE raw (tlF raw).2.1 (tlF raw).1 0).1 ≠ 0
  · rw [if_pos c3] at h; exact absurd h c3
  rw [if_neg c3]; rfl
theorem li_fr {raw : ByteArray} (h : ¬ 1200 < raw.size) : liE raw = (frF raw).2 := by unfold liE; rw [if_neg h]
theorem li_lg {raw : ByteArray} (h : 1200 < raw.size) : liE raw = (1, 0) := by unfold liE; rw [if_pos h]
theorem li_un {raw : ByteArray} (h : (liE raw).1 ≠ 0) : unG raw = liE raw := by unfold unG; rw [if_pos h]
theorem li_un0 {raw : ByteArray} (h : (liE raw).1 = 0) : unG raw = unE raw (cnt raw) 0 := by unfold unG; rw [if_neg (by omega)]
theorem unE_step {raw : ByteArray} {n i : Nat} (hi : i < n) : unE raw (n - i) i = if enE raw (cel raw i) ≠ 0 then (enE raw (cel raw i), (spR raw (cel raw i)).off) else unE raw (n - (i + 1)) (i + 1) := by
  rw [show n - i = n - (i + 1) + 1 by omega]; rfl
theorem dnV_c (x : DO) : ∃ n s e : Nat, dnV x = #[.int .i64 ((n : Nat) : Int), .int .i64 ((s : Nat) : Int), .int .i64 ((e : Nat) : Int)] ∧ e = x.e ∧ (x.e = 0 → n = x.out.length ∧ s = smF (mkS x.out)) := by
  by_cases h : x.e = 0
  · exact ⟨_, _, 0, by unfold dnV; rw [if_pos h]; rfl, h.symm, fun _ => ⟨rfl, rfl⟩⟩
  · exact ⟨0, 0, x.e, by unfold dnV; rw [if_neg h]; rfl, rfl, fun z => absurd z h⟩
theorem out_le (raw : ByteArray) {h : Heap} {V : SA} {st : Nat} {out : List Int} (d : DS h V st out) : out.length ≤ 256 := by
  obtain ⟨_, r, s, ua, ub, sw, q⟩ := d
  obtain ⟨_, w⟩ := q.w
  exact w.si.le
set_option maxHeartbeats 3200000 in
theorem alist_spec (h : Heap) (A K D : Nat) (t : List Int) (fo ft : Nat → Nat) (gn : Nat → Int) (ax : AX h A K D t fo ft gn) (raw : ByteArray) :
    FC Tryz.prog 37 (#[.pointer (some ⟨A, 0, none⟩), .string raw] : Array Value) h fun rv h' => ∃ (a : Option Addr) (L : List In), L = (if (liE raw).1 = 0 then liL raw else []) ∧ rv = .tuple #[.slice a L.length L.length, .int .i64 (((liE raw).1 : Nat) : Int), .int .i64 (((liE raw).2 : Nat) : Int)] ∧ IA h.size h' a L ∧ (∃ ft', AX h' A K D t fo ft' gn) ∧ Ext (AT A) h h' := by
  refine FC_of [(0, .pointer (some ⟨A, 0, none⟩)), (1, .string raw)] Tryz.func37 rfl Tryz.ntmps37 (by simp) rfl (fun R hR => ?_)
  refine V_sr T.mix (by kernel_rfl) (fun K1 hK1 => ?_)
  refine S_as rfl ?_
  refine S_as rfl ?_
  refine S_as rfl ?_
  refine S_nil (hK1 _ _ (V_keep [0, 1] (by simp only [proj, lk, reduceIte, Nat.reduceEqDiff]; rfl) ?_)); clear hK1
  refine V_seq (fun K2 hK2 => ?_)
  refine V_sr T.mix (by kernel_rfl) (fun K3 hK3 => ?_)
  refine S_mv rfl ?_
  refine S_lens T.kd9 rfl ?_
  refine S_bin rfl rfl rfl ?_
  refine S_nil (hK3 _ _ (V_keep [0, 1, 15] (by simp only [proj, lk, reduceIte, Nat.reduceEqDiff]; rfl) ?_)); clear hK3
  refine V_condp rfl (fun c94 => ?_) (fun c94 => ?_)
  · skip
    refine V_sr T.mix (by kernel_rfl) (fun K4 hK4 => ?_)
    refine S_as rfl ?_
    refine S_as rfl ?_
    refine S_as rfl ?_
    refine S_nil (hK4 _ _ (V_keep [4, 5, 6] (by simp only [proj, lk, reduceIte, Nat.reduceEqDiff]; rfl) ?_)); clear hK4
    refine V_ret ?_
    refine hR _ _ (ret3 rfl rfl rfl rfl ?_)
    have hl := li_lg (raw := raw) (by omega)
    rw [hl]
    exact ⟨none, [], by simp, rfl, .inl ⟨rfl, rfl⟩, ⟨ft, ax⟩, Ext.refl _ _⟩
  · skip
    refine V_skipk [0, 1] (by simp only [proj, lk, reduceIte, Nat.reduceEqDiff]; rfl) ?_
    refine hK2 _ _ ?_; clear hK2
    refine V_sr T.mix (by kernel_rfl) (fun K5 hK5 => ?_)
    refine S_mv rfl ?_
    refine S_mv rfl ?_
    refine S_call T.hb63 rfl ?_
    have hz : raw.size ≤ 1200 := by omega
    have hfs := frame_spec h A K D t fo ft gn ax raw hz
    have hlf := li_fr (raw := raw) (by omega)
    obtain ⟨c_, ec⟩ : ∃ x, x = (frF raw).1 := ⟨_, rfl⟩
    obtain ⟨fe, efe⟩ : ∃ x, x = (frF raw).2.1 := ⟨_, rfl⟩
    obtain ⟨fp, efp⟩ : ∃ x, x = (frF raw).2.2 := ⟨_, rfl⟩
    rw [← ec, ← efe, ← efp] at hfs
    have hle_ : liE raw = (fe, fp) := by rw [hlf, efe, efp]
    refine FC.mono hfs ?_
    rintro v' h1 ⟨rfl, ⟨ft1, ax1, htb0⟩, hE1⟩
    refine S_mv rfl ?_
    refine S_ex rfl rfl ?_
    refine S_ex rfl rfl ?_
    refine S_ex rfl rfl ?_
    refine S_as rfl ?_
    refine S_as rfl ?_
    refine S_as rfl ?_
    refine S_nil (hK5 _ _ (V_keep [0, 1, 7, 8, 9] (by simp only [proj, lk, reduceIte, Nat.reduceEqDiff]; rfl) ?_)); clear hK5
    refine V_seq (fun K6 hK6 => ?_)
    refine V_sr T.mix (by kernel_rfl) (fun K7 hK7 => ?_)
    refine S_mv rfl ?_
    refine S_bin rfl rfl rfl ?_
    refine S_nil (hK7 _ _ (V_keep [0, 1, 7, 8, 9, 24] (by simp only [proj, lk, reduceIte, Nat.reduceEqDiff]; rfl) ?_)); clear hK7
    refine V_condp rfl (fun c98 => ?_) (fun c98 => ?_)
    · skip
      refine V_sr T.mix (by kernel_rfl) (fun K8 hK8 => ?_)
      refine S_mv rfl ?_
      refine S_mv rfl ?_
      refine S_as rfl ?_
      refine S_as rfl ?_
      refine S_as rfl ?_
      refine S_nil (hK8 _ _ (V_keep [4, 5, 6] (by simp only [proj, lk, reduceIte, Nat.reduceEqDiff]; rfl) ?_)); clear hK8
      refine V_ret ?_
      refine hR _ _ (ret3 rfl rfl rfl rfl ?_)
      rw [hle_]
      exact ⟨none, [], by rw [if_neg (by simp only []; omega)], rfl, .inl ⟨rfl, rfl⟩, ⟨ft1, ax1⟩, hE1⟩
    · skip
      have fe0 : fe = 0 := by omega
      obtain ⟨fm, hl0⟩ := li_ok (raw := raw) (by rw [hle_]; exact fe0)
      have ecn : c_ = cnt raw := by rw [ec]; exact fr_cnt (by rw [← efe]; exact fe0)
      have htb := htb0 fe0
      have fmc0 := fm.c
      have hAl := ax1.lt
      refine V_skipk [0, 1, 7] (by simp only [proj, lk, reduceIte, Nat.reduceEqDiff]; rfl) ?_
      refine hK6 _ _ ?_; clear hK6
      refine V_sr T.mix (by kernel_rfl) (fun K9 hK9 => ?_)
      refine S_mv rfl ?_
      refine S_mk T.ei38 rfl rfl (by omega) (by omega) (by omega) (by omega) ?_
      rw [Int.toNat_natCast]
      generalize hz0 : mkZ _ _ = cs0
      have hcz : cs0.size = c_ * 3 := by rw [← hz0, mkZ_size]
      clear hz0
      generalize hh : Array.push h1 _ = h2
      have bo2 : B h2 h1.size cs0 122 := by rw [← hh]; exact B.new _ _ _
      have hEh2 : Ext (fun _ => False) h1 h2 := by rw [← hh]; exact Ext.push _ _ _
      clear hh
      have ax2 := ax1.new hEh2
      have hE2 : Ext (AT A) h h2 := hE1.step hEh2 (fun z hz f => f.elim)
      have hh1 := hE1.1
      refine S_as rfl ?_
      refine S_nil (hK9 _ _ (V_keep [0, 1, 7, 10] (by simp only [proj, lk, reduceIte, Nat.reduceEqDiff]; rfl) ?_)); clear hK9
      refine V_seq (fun K10 hK10 => ?_)
      refine V_sr T.mix (by kernel_rfl) (fun K11 hK11 => ?_)
      refine S_as rfl ?_
      refine S_nil (hK11 _ _ (V_keep [0, 1, 7, 10, 11] (by simp only [proj, lk, reduceIte, Nat.reduceEqDiff]; rfl) ?_)); clear hK11
      refine V_block ?_
      refine V_loop (fun m l h' => ∃ (i : Nat) (hk : Heap) (csk : Array Value), (i ≤ c_) ∧ (AX hk A K D t fo ft1 gn) ∧ (B hk h1.size csk 122) ∧ (csk.size = c_ * 3) ∧ (∀ k, k < i → csk[k * 3]? = some (.string (inV raw (cel raw k)).1) ∧ csk[k * 3 + 1]? = some (.int .i64 (((inV raw (cel raw k)).2.1 : Nat) : Int)) ∧ csk[k * 3 + 2]? = some (.int .i64 (((inV raw (cel raw k)).2.2 : Nat) : Int))) ∧ (Ext (AT A) h hk) ∧ m = c_ - i ∧ l = [(0, .pointer (some ⟨A, 0, none⟩)), (1, .string raw), (7, .int .i64 (c_ : Int)), (10, .slice (some ⟨h1.size, 0, none⟩) c_ c_), (11, .int .i64 (i : Int))] ∧ hk = h') _ ⟨0, h2, cs0, Nat.zero_le _, ax2, bo2, hcz, fun k hk => absurd hk (Nat.not_lt_zero _), hE2, rfl, rfl, rfl⟩ ?_
      rintro m l h' ⟨i, hk, csk, hi, axk, bok, hcsz, hcs, hEk, rfl, rfl, rfl⟩ K12 hK12
      try clear x0 pr g
      obtain ⟨g, x0, pr⟩ := axk.x
      try clear a0 a1 a2 a3 a4 a5 a6 ao ab aok pok ook tok gok
      obtain ⟨a0, a1, a2, a3, a4, a5, a6, ao, ab, aok, pok, ook, tok, gok⟩ := aq (x0)
      refine V_seq (fun K13 hK13 => ?_)
      refine V_sr T.mix (by kernel_rfl) (fun K14 hK14 => ?_)
      refine S_mv rfl ?_
      refine S_mv rfl ?_
      refine S_bin rfl rfl rfl ?_
      refine S_nil (hK14 _ _ (V_keep [0, 1, 7, 10, 11, 31] (by simp only [proj, lk, reduceIte, Nat.reduceEqDiff]; rfl) ?_)); clear hK14
      refine V_condp rfl (fun c102 => ?_) (fun c102 => ?_)
      · skip
        refine V_skipk [0, 1, 7, 10, 11] (by simp only [proj, lk, reduceIte, Nat.reduceEqDiff]; rfl) ?_
        refine hK13 _ _ ?_; clear hK13
        refine V_seq (fun K15 hK15 => ?_)
        refine V_block ?_
        refine V_sr T.mix (by kernel_rfl) (fun K16 hK16 => ?_)
        refine S_mv rfl ?_
        refine S_nc rfl ?_
        first | refine S_fa0 T.f59_5 rfl ?_ | refine S_fa T.f59_5 rfl ?_
        refine S_ldK T.ag57 rfl (fun K' hK' => ?_)
        simp (disch := omega) only [a0, a1, a2, a3, a4, a5, a6, ao, ab, oP_some, Nat.add_zero]
        refine hK' _ ?_; clear hK' K'
        refine S_mv rfl ?_
        obtain ⟨ro, ero⟩ : ∃ x, x = (spR raw (cel raw i)).off := ⟨_, rfl⟩
        obtain ⟨rh, erh⟩ : ∃ x, x = (spR raw (cel raw i)).head := ⟨_, rfl⟩
        obtain ⟨rt, ert⟩ : ∃ x, x = (spR raw (cel raw i)).to := ⟨_, rfl⟩
        obtain ⟨rz, erz⟩ : ∃ x, x = (spR raw (cel raw i)).size := ⟨_, rfl⟩
        obtain ⟨ru, eru⟩ : ∃ x, x = (spR raw (cel raw i)).sum := ⟨_, rfl⟩
        obtain ⟨t1, t2_, t3, t4, t5⟩ := htb i (by omega)
        obtain ⟨_, p1, p2, p3, p4, p5, p6⟩ := sp_ok (fm.sp i (by omega))
        rw [← ero] at t1 p1 p4
        rw [← erh] at t2_ p1 p2 p4 p6
        rw [← ert] at t3 p2 p3 p6
        rw [← erz] at t4 p5
        rw [← eru] at t5
        have hc5 : cellsH hk ⟨A + 3, i * 5, none⟩ 0 5 = some (s5 ro rh rt rz ru).toList := by have h9 := cells5 (v := fun j => ft1 (i * 5 + j)) (fun j hj => ab (i * 5 + j) (by omega)); simp only [Nat.add_zero] at h9; rw [t1, t2_, t3, t4, t5] at h9; exact h9
        have fms := fm.s
        have fmz := fm.z
        have fmc := fm.c
        refine S_ix T.el57 rfl rfl (by omega) (by omega) ?_
        rw [Nat.zero_add, Int.toNat_natCast]
        refine S_ldn T.ag128 rfl hc5 ?_
        refine S_allocA T.z128 ?_
        generalize hh : Array.push hk _ = g1
        have l1 : B g1 hk.size (s5 (0) (0) (0) (0) (0)) 128 := by rw [← hh]; exact B.new _ _ _
        have hEg1 : Ext (fun _ => False) hk g1 := by rw [← hh]; exact Ext.push _ _ _
        clear hh
        have lok : ∀ j, j < 5 → okPut g1 ⟨hk.size, j, none⟩ = true := fun j hj => l1.ok (by simpa [s5] using hj)
        refine S_stl T.sz128 rfl rfl rfl rfl (fun j hj => by simp (disch := omega) only [lok]) ?_
        generalize hh : putsH _ _ _ _ = g2
        have l2 : B g2 (hk.size) (s5 ro rh rt rz ru) 128 := by rw [← hh]; exact puts_all (l1) (cs' := (s5 ro rh rt rz ru)) rfl
        have hEg2 : Ext (fun k => k = hk.size) g1 g2 := by rw [← hh]; exact Ext.puts (S := fun k => k = hk.size) rfl _ _ _
        clear hh
        have hbl := bok.lt
        have hE02 : Ext (fun _ => False) hk g2 := hEg1.step hEg2 (fun b hb e => by omega)
        have bo3 := bok.ext hE02 (fun f => f)
        try clear c0 c1 c2 c3 c4 sok
        obtain ⟨c0, c1, c2, c3, c4, sok⟩ := s5q (l2)
        try clear wok
        have wok : ∀ j, j < c_ * 3 → okPut g2 ⟨h1.size, j, none⟩ = true := fun j hj => bo3.ok (by (try simp only [Array.size_setIfInBounds]); omega)
        refine S_nil (hK16 _ _ (V_keep [0, 1, 7, 10, 11, 12] (by simp only [proj, lk, reduceIte, Nat.reduceEqDiff]; rfl) ?_)); clear hK16
        refine V_sr T.mix (by kernel_rfl) (fun K17 hK17 => ?_)
        refine S_mv rfl ?_
        refine S_mv rfl ?_
        refine S_mv rfl ?_
        first | refine S_fa0 T.f128_0 rfl ?_ | refine S_fa T.f128_0 rfl ?_
        refine S_ldK T.ag3 rfl (fun K' hK' => ?_)
        simp (disch := omega) only [a0, a1, a2, a3, a4, a5, a6, ao, ab, c0, c1, c2, c3, c4, oP_some, Nat.add_zero]
        refine hK' _ ?_; clear hK' K'
        refine S_addN (ro + 1) rfl rfl (by omega) (by omega) ?_
        first | refine S_fa0 T.f128_1 rfl ?_ | refine S_fa T.f128_1 rfl ?_
        refine S_ldK T.ag3 rfl (fun K' hK' => ?_)
        simp (disch := omega) only [a0, a1, a2, a3, a4, a5, a6, ao, ab, c0, c1, c2, c3, c4, oP_some, Nat.add_zero]
        refine hK' _ ?_; clear hK' K'
        refine S_sl rfl rfl rfl (sliceV_str T.kd9 (by omega) (by omega) (by omega)) ?_
        rw [Int.toNat_natCast, Int.toNat_natCast]
        refine S_ix T.el38 rfl rfl (by omega) (by omega) ?_
        rw [Nat.zero_add, Int.toNat_natCast]
        first | refine S_fa0 T.f122_0 rfl ?_ | refine S_fa T.f122_0 rfl ?_
        refine S_st T.sz9 rfl rfl rfl rfl (by simp (disch := omega) only [wok]) ?_
        generalize hh : putH _ _ _ = g3
        have bo4 : B g3 h1.size (csk.setIfInBounds (i * 3) (.string (raw.extract (ro + 1) rh))) 122 := by rw [← hh]; exact bo3.put _ _
        have hEg3 : Ext (fun z => z = h1.size) g2 g3 := by rw [← hh]; exact Ext.put _ _ rfl
        clear hh
        have l3 := l2.ext hEg3 (fun e => by omega)
        try clear c0 c1 c2 c3 c4 sok
        obtain ⟨c0, c1, c2, c3, c4, sok⟩ := s5q (l3)
        try clear wok
        have wok : ∀ j, j < c_ * 3 → okPut g3 ⟨h1.size, j, none⟩ = true := fun j hj => bo4.ok (by (try simp only [Array.size_setIfInBounds]); omega)
        refine S_nil (hK17 _ _ (V_keep [0, 1, 7, 10, 11, 12] (by simp only [proj, lk, reduceIte, Nat.reduceEqDiff]; rfl) ?_)); clear hK17
        refine V_sr T.mix (by kernel_rfl) (fun K18 hK18 => ?_)
        refine S_mv rfl ?_
        refine S_mv rfl ?_
        first | refine S_fa0 T.f128_3 rfl ?_ | refine S_fa T.f128_3 rfl ?_
        refine S_ldK T.ag3 rfl (fun K' hK' => ?_)
        simp (disch := omega) only [a0, a1, a2, a3, a4, a5, a6, ao, ab, c0, c1, c2, c3, c4, oP_some, Nat.add_zero]
        refine hK' _ ?_; clear hK' K'
        refine S_ix T.el38 rfl rfl (by omega) (by omega) ?_
        rw [Nat.zero_add, Int.toNat_natCast]
        first | refine S_fa0 T.f122_1 rfl ?_ | refine S_fa T.f122_1 rfl ?_
        refine S_st T.sz3 rfl rfl rfl rfl (by simp (disch := omega) only [wok]) ?_
        generalize hh : putH _ _ _ = g4
        have bo5 : B g4 h1.size ((csk.setIfInBounds (i * 3) (.string (raw.extract (ro + 1) rh))).setIfInBounds (i * 3 + 1) (.int .i64 ((rz : Nat) : Int))) 122 := by rw [← hh]; exact bo4.put _ _
        have hEg4 : Ext (fun z => z = h1.size) g3 g4 := by rw [← hh]; exact Ext.put _ _ rfl
        clear hh
        have l4 := l3.ext hEg4 (fun e => by omega)
        try clear c0 c1 c2 c3 c4 sok
        obtain ⟨c0, c1, c2, c3, c4, sok⟩ := s5q (l4)
        try clear wok
        have wok : ∀ j, j < c_ * 3 → okPut g4 ⟨h1.size, j, none⟩ = true := fun j hj => bo5.ok (by (try simp only [Array.size_setIfInBounds]); omega)
        refine S_nil (hK18 _ _ (V_keep [0, 1, 7, 10, 11, 12] (by simp only [proj, lk, reduceIte, Nat.reduceEqDiff]; rfl) ?_)); clear hK18
        refine V_reg T.mix (by kernel_rfl) ?_
        refine S_mv rfl ?_
        refine S_mv rfl ?_
        first | refine S_fa0 T.f128_2 rfl ?_ | refine S_fa T.f128_2 rfl ?_
        refine S_ldK T.ag3 rfl (fun K' hK' => ?_)
        simp (disch := omega) only [a0, a1, a2, a3, a4, a5, a6, ao, ab, c0, c1, c2, c3, c4, oP_some, Nat.add_zero]
        refine hK' _ ?_; clear hK' K'
        first | refine S_fa0 T.f128_1 rfl ?_ | refine S_fa T.f128_1 rfl ?_
        refine S_ldK T.ag3 rfl (fun K' hK' => ?_)
        simp (disch := omega) only [a0, a1, a2, a3, a4, a5, a6, ao, ab, c0, c1, c2, c3, c4, oP_some, Nat.add_zero]
        refine hK' _ ?_; clear hK' K'
        refine S_subN (rt - rh) rfl rfl (by omega) (by omega) ?_
        refine S_subN (rt - rh - 6) rfl rfl (by omega) (by omega) ?_
        refine S_ix T.el38 rfl rfl (by omega) (by omega) ?_
        rw [Nat.zero_add, Int.toNat_natCast]
        first | refine S_fa0 T.f122_2 rfl ?_ | refine S_fa T.f122_2 rfl ?_
        refine S_st T.sz3 rfl rfl rfl rfl (by simp (disch := omega) only [wok]) ?_
        generalize hh : putH _ _ _ = g5
        have bo6 : B g5 h1.size (((csk.setIfInBounds (i * 3) (.string (raw.extract (ro + 1) rh))).setIfInBounds (i * 3 + 1) (.int .i64 ((rz : Nat) : Int))).setIfInBounds (i * 3 + 2) (.int .i64 ((rt - rh - 6 : Nat) : Int))) 122 := by rw [← hh]; exact bo5.put _ _
        have hEg5 : Ext (fun z => z = h1.size) g4 g5 := by rw [← hh]; exact Ext.put _ _ rfl
        clear hh
        have hE25 : Ext (fun z => z = h1.size) g2 g5 := (hEg3.trans hEg4).trans hEg5
        have ax5 := (axk.new hE02).ext hE25 (fun z e y => by rw [at_def] at e; omega)
        have hE5 : Ext (AT A) h g5 := (hEk.step hE02 (fun z hz f => f.elim)).step hE25 (fun z hz e => by omega)
        refine S_nilk [0, 1, 7, 10, 11] (by simp only [proj, lk, reduceIte, Nat.reduceEqDiff]; rfl) ?_
        refine hK15 _ _ ?_; clear hK15
        refine V_reg T.mix (by kernel_rfl) ?_
        refine S_mv rfl ?_
        refine S_addN (i + 1) rfl rfl (by omega) (by omega) ?_
        refine S_as rfl ?_
        refine S_nilk [0, 1, 7, 10, 11] (by simp only [proj, lk, reduceIte, Nat.reduceEqDiff]; rfl) ?_
        exact hK12 _ _ ⟨_, by omega, i + 1, g5, _, by omega, ax5, bo6, by simp only [Array.size_setIfInBounds]; exact hcsz, fun k hk => by
          by_cases e : k = i
          · subst e
            refine ⟨?_, ?_, ?_⟩
            · rw [set_ne (by omega), set_ne (by omega), set_eq (by omega)]; unfold inV nmR; rw [← ero, ← erh]
            · rw [set_ne (by omega), set_eq (by simp only [Array.size_setIfInBounds]; omega)]; unfold inV; rw [← erz]
            · rw [set_eq (by simp only [Array.size_setIfInBounds]; omega)]; unfold inV; rw [← ert, ← erh]
          · rw [set_ne (by omega), set_ne (by omega), set_ne (by omega), set_ne (by omega), set_ne (by omega), set_ne (by omega), set_ne (by omega), set_ne (by omega), set_ne (by omega)]; exact hcs k (by omega), hE5, rfl, rfl, rfl⟩
      · skip
        refine V_exitk [10] rfl (by simp only [proj, lk, reduceIte, Nat.reduceEqDiff]; rfl) ?_
        refine hK10 _ _ ?_; clear hK10
        refine V_sr T.mix (by kernel_rfl) (fun K19 hK19 => ?_)
        refine S_mv rfl ?_
        refine S_as rfl ?_
        refine S_as rfl ?_
        refine S_as rfl ?_
        refine S_nil (hK19 _ _ (V_keep [4, 5, 6] (by simp only [proj, lk, reduceIte, Nat.reduceEqDiff]; rfl) ?_)); clear hK19
        refine V_ret ?_
        refine hR _ _ (ret3 rfl rfl rfl rfl ?_)
        rw [hl0]
        have hLl := liL_len raw
        refine ⟨some ⟨h1.size, 0, none⟩, liL raw, by simp, by rw [hLl, ← ecn]; rfl, .inr ⟨h1.size, csk, rfl, hh1, bok, by rw [hLl, ← ecn]; exact hcsz, fun k hk => ?_⟩, ⟨ft1, axk⟩, hEk⟩
        rw [hLl] at hk
        rw [liL_at hk]
        exact hcs k (by omega)
set_option maxHeartbeats 6400000 in
theorem aunpack_spec (h : Heap) (V : SA) (A K : Nat) (t : List Int) (fo ft : Nat → Nat) (gn : Nat → Int) (ax : AX h A K V.D t fo ft gn) (st0 : Nat) (out0 : List Int) (ds : DS h V st0 out0) (hV : ∀ z, WTs V z → z < A) (raw : ByteArray) :
    FC Tryz.prog 40 (#[.pointer (some ⟨A, 0, none⟩), .string raw] : Array Value) h fun rv h' => ∃ (a : Option Addr) (L : List En), L = (if (unG raw).1 = 0 then unL raw else []) ∧ rv = .tuple #[.slice a L.length L.length, .int .i64 (((unG raw).1 : Nat) : Int), .int .i64 (((unG raw).2 : Nat) : Int)] ∧ EA h.size h' a L ∧ (∃ ft' gn', AX h' A K V.D t fo ft' gn') ∧ ((liE raw).1 ≠ 0 → Ext (AT A) h h') ∧ (∃ st1 out1, DS h' V st1 out1 ∧ ((unG raw).1 = 0 → 0 < cnt raw → st1 = 1 ∧ mkS out1 = (ga (unL raw) (cnt raw - 1)).2)) ∧ Ext (DTA V A) h h' := by
  refine FC_of [(0, .pointer (some ⟨A, 0, none⟩)), (1, .string raw)] Tryz.func40 rfl Tryz.ntmps40 (by simp) rfl (fun R hR => ?_)
  refine V_sr T.mix (by kernel_rfl) (fun K1 hK1 => ?_)
  refine S_as rfl ?_
  refine S_as rfl ?_
  refine S_as rfl ?_
  refine S_nil (hK1 _ _ (V_keep [0, 1] (by simp only [proj, lk, reduceIte, Nat.reduceEqDiff]; rfl) ?_)); clear hK1
  refine V_seq (fun K2 hK2 => ?_)
  refine V_sr T.mix (by kernel_rfl) (fun K3 hK3 => ?_)
  refine S_mv rfl ?_
  refine S_lens T.kd9 rfl ?_
  refine S_bin rfl rfl rfl ?_
  refine S_nil (hK3 _ _ (V_keep [0, 1, 18] (by simp only [proj, lk, reduceIte, Nat.reduceEqDiff]; rfl) ?_)); clear hK3
  refine V_condp rfl (fun c113 => ?_) (fun c113 => ?_)
  · skip
    refine V_sr T.mix (by kernel_rfl) (fun K4 hK4 => ?_)
    refine S_as rfl ?_
    refine S_as rfl ?_
    refine S_as rfl ?_
    refine S_nil (hK4 _ _ (V_keep [4, 5, 6] (by simp only [proj, lk, reduceIte, Nat.reduceEqDiff]; rfl) ?_)); clear hK4
    refine V_ret ?_
    refine hR _ _ (ret3 rfl rfl rfl rfl ?_)
    have hl := li_lg (raw := raw) (by omega)
    rw [li_un (by rw [hl]; decide), hl]
    exact ⟨none, [], by simp, rfl, .inl ⟨rfl, rfl⟩, ⟨ft, gn, ax⟩, fun _ => Ext.refl _ _, ⟨_, _, ds, fun z => by simp at z⟩, Ext.refl _ _⟩
  · skip
    refine V_skipk [0, 1] (by simp only [proj, lk, reduceIte, Nat.reduceEqDiff]; rfl) ?_
    refine hK2 _ _ ?_; clear hK2
    refine V_sr T.mix (by kernel_rfl) (fun K5 hK5 => ?_)
    refine S_mv rfl ?_
    refine S_mv rfl ?_
    refine S_call T.hb63 rfl ?_
    have hz : raw.size ≤ 1200 := by omega
    have hfs := frame_spec h A K V.D t fo ft gn ax raw hz
    have hlf := li_fr (raw := raw) (by omega)
    obtain ⟨c_, ec⟩ : ∃ x, x = (frF raw).1 := ⟨_, rfl⟩
    obtain ⟨fe, efe⟩ : ∃ x, x = (frF raw).2.1 := ⟨_, rfl⟩
    obtain ⟨fp, efp⟩ : ∃ x, x = (frF raw).2.2 := ⟨_, rfl⟩
    rw [← ec, ← efe, ← efp] at hfs
    have hle_ : liE raw = (fe, fp) := by rw [hlf, efe, efp]
    refine FC.mono hfs ?_
    rintro v' h1 ⟨rfl, ⟨ft1, ax1, htb0⟩, hE1⟩
    have ds1 := ds.ext hE1 (fun z e y => by have h9 := hV z e; rw [at_def] at y; omega)
    have hD1 : Ext (DTA V A) h h1 := hE1.mono fun _ e => .inr e
    refine S_mv rfl ?_
    refine S_ex rfl rfl ?_
    refine S_ex rfl rfl ?_
    refine S_ex rfl rfl ?_
    refine S_as rfl ?_
    refine S_as rfl ?_
    refine S_as rfl ?_
    refine S_nil (hK5 _ _ (V_keep [0, 1, 7, 8, 9] (by simp only [proj, lk, reduceIte, Nat.reduceEqDiff]; rfl) ?_)); clear hK5
    refine V_seq (fun K6 hK6 => ?_)
    refine V_sr T.mix (by kernel_rfl) (fun K7 hK7 => ?_)
    refine S_mv rfl ?_
    refine S_bin rfl rfl rfl ?_
    refine S_nil (hK7 _ _ (V_keep [0, 1, 7, 8, 9, 27] (by simp only [proj, lk, reduceIte, Nat.reduceEqDiff]; rfl) ?_)); clear hK7
    refine V_condp rfl (fun c117 => ?_) (fun c117 => ?_)
    · skip
      refine V_sr T.mix (by kernel_rfl) (fun K8 hK8 => ?_)
      refine S_mv rfl ?_
      refine S_mv rfl ?_
      refine S_as rfl ?_
      refine S_as rfl ?_
      refine S_as rfl ?_
      refine S_nil (hK8 _ _ (V_keep [4, 5, 6] (by simp only [proj, lk, reduceIte, Nat.reduceEqDiff]; rfl) ?_)); clear hK8
      refine V_ret ?_
      refine hR _ _ (ret3 rfl rfl rfl rfl ?_)
      rw [li_un (by rw [hle_]; simp only []; omega), hle_]
      exact ⟨none, [], by rw [if_neg (by simp only []; omega)], rfl, .inl ⟨rfl, rfl⟩, ⟨ft1, gn, ax1⟩, fun _ => hE1, ⟨_, _, ds1, fun z => by simp only [] at z; omega⟩, hD1⟩
    · skip
      have fe0 : fe = 0 := by omega
      obtain ⟨fm, hl0⟩ := li_ok (raw := raw) (by rw [hle_]; exact fe0)
      have ecn : c_ = cnt raw := by rw [ec]; exact fr_cnt (by rw [← efe]; exact fe0)
      have htb := htb0 fe0
      have fmc0 := fm.c
      have hAl := ax1.lt
      refine V_skipk [0, 1, 7] (by simp only [proj, lk, reduceIte, Nat.reduceEqDiff]; rfl) ?_
      refine hK6 _ _ ?_; clear hK6
      refine V_sr T.mix (by kernel_rfl) (fun K9 hK9 => ?_)
      refine S_mv rfl ?_
      refine S_mk T.ei37 rfl rfl (by omega) (by omega) (by omega) (by omega) ?_
      rw [Int.toNat_natCast]
      generalize hz0 : mkZ _ _ = cs0
      have hcz : cs0.size = c_ * 2 := by rw [← hz0, mkZ_size]
      clear hz0
      generalize hh : Array.push h1 _ = h2
      have bo2 : B h2 h1.size cs0 104 := by rw [← hh]; exact B.new _ _ _
      have hEh2 : Ext (fun _ => False) h1 h2 := by rw [← hh]; exact Ext.push _ _ _
      clear hh
      have ax2 := ax1.new hEh2
      have ds2 := ds1.new hEh2
      have hE2 : Ext (DTA V A) h h2 := hD1.step hEh2 (fun z hz f => f.elim)
      have hh1 := hE1.1
      refine S_as rfl ?_
      refine S_nil (hK9 _ _ (V_keep [0, 1, 7, 10] (by simp only [proj, lk, reduceIte, Nat.reduceEqDiff]; rfl) ?_)); clear hK9
      refine V_seq (fun K10 hK10 => ?_)
      refine V_sr T.mix (by kernel_rfl) (fun K11 hK11 => ?_)
      refine S_as rfl ?_
      refine S_nil (hK11 _ _ (V_keep [0, 1, 7, 10, 11] (by simp only [proj, lk, reduceIte, Nat.reduceEqDiff]; rfl) ?_)); clear hK11
      refine V_block ?_
      refine V_loop (fun m l h' => ∃ (i : Nat) (hk : Heap) (csk : Array Value) (gk : Nat → Int) (stk : Nat) (otk : List Int), (i ≤ c_) ∧ (AX hk A K V.D t fo ft1 gk) ∧ (DS hk V stk otk) ∧ (0 < i → stk = 1 ∧ mkS otk = (enV raw (cel raw (i - 1))).2) ∧ (B hk h1.size csk 104) ∧ (csk.size = c_ * 2) ∧ (∀ k, k < i → csk[k * 2]? = some (.string (enV raw (cel raw k)).1) ∧ csk[k * 2 + 1]? = some (.string (enV raw (cel raw k)).2)) ∧ (unE raw c_ 0 = unE raw (c_ - i) i) ∧ (Ext (DTA V A) h hk) ∧ m = c_ - i ∧ l = [(0, .pointer (some ⟨A, 0, none⟩)), (1, .string raw), (7, .int .i64 (c_ : Int)), (10, .slice (some ⟨h1.size, 0, none⟩) c_ c_), (11, .int .i64 (i : Int))] ∧ hk = h') _ ⟨0, h2, cs0, gn, st0, out0, Nat.zero_le _, ax2, ds2, fun z => absurd z (by decide), bo2, hcz, fun k hk => absurd hk (Nat.not_lt_zero _), rfl, hE2, rfl, rfl, rfl⟩ ?_
      rintro m l h' ⟨i, hk, csk, gk, stk, otk, hi, axk, dsk, hsk, bok, hcsz, hcs, hun, hEk, rfl, rfl, rfl⟩ K12 hK12
      try clear x0 pr g
      obtain ⟨g, x0, pr⟩ := axk.x
      try clear a0 a1 a2 a3 a4 a5 a6 ao ab aok pok ook tok gok
      obtain ⟨a0, a1, a2, a3, a4, a5, a6, ao, ab, aok, pok, ook, tok, gok⟩ := aq (x0)
      refine V_seq (fun K13 hK13 => ?_)
      refine V_sr T.mix (by kernel_rfl) (fun K14 hK14 => ?_)
      refine S_mv rfl ?_
      refine S_mv rfl ?_
      refine S_bin rfl rfl rfl ?_
      refine S_nil (hK14 _ _ (V_keep [0, 1, 7, 10, 11, 34] (by simp only [proj, lk, reduceIte, Nat.reduceEqDiff]; rfl) ?_)); clear hK14
      refine V_condp rfl (fun c121 => ?_) (fun c121 => ?_)
      · skip
        refine V_skipk [0, 1, 7, 10, 11] (by simp only [proj, lk, reduceIte, Nat.reduceEqDiff]; rfl) ?_
        refine hK13 _ _ ?_; clear hK13
        refine V_seq (fun K15 hK15 => ?_)
        refine V_block ?_
        refine V_sr T.mix (by kernel_rfl) (fun K16 hK16 => ?_)
        refine S_mv rfl ?_
        refine S_nc rfl ?_
        first | refine S_fa0 T.f59_5 rfl ?_ | refine S_fa T.f59_5 rfl ?_
        refine S_ldK T.ag57 rfl (fun K' hK' => ?_)
        simp (disch := omega) only [a0, a1, a2, a3, a4, a5, a6, ao, ab, oP_some, Nat.add_zero]
        refine hK' _ ?_; clear hK' K'
        refine S_mv rfl ?_
        obtain ⟨ro, ero⟩ : ∃ x, x = (spR raw (cel raw i)).off := ⟨_, rfl⟩
        obtain ⟨rh, erh⟩ : ∃ x, x = (spR raw (cel raw i)).head := ⟨_, rfl⟩
        obtain ⟨rt, ert⟩ : ∃ x, x = (spR raw (cel raw i)).to := ⟨_, rfl⟩
        obtain ⟨rz, erz⟩ : ∃ x, x = (spR raw (cel raw i)).size := ⟨_, rfl⟩
        obtain ⟨ru, eru⟩ : ∃ x, x = (spR raw (cel raw i)).sum := ⟨_, rfl⟩
        obtain ⟨t1, t2_, t3, t4, t5⟩ := htb i (by omega)
        obtain ⟨_, p1, p2, p3, p4, p5, p6⟩ := sp_ok (fm.sp i (by omega))
        rw [← ero] at t1 p1 p4
        rw [← erh] at t2_ p1 p2 p4 p6
        rw [← ert] at t3 p2 p3 p6
        rw [← erz] at t4 p5
        rw [← eru] at t5
        have hc5 : cellsH hk ⟨A + 3, i * 5, none⟩ 0 5 = some (s5 ro rh rt rz ru).toList := by have h9 := cells5 (v := fun j => ft1 (i * 5 + j)) (fun j hj => ab (i * 5 + j) (by omega)); simp only [Nat.add_zero] at h9; rw [t1, t2_, t3, t4, t5] at h9; exact h9
        have fms := fm.s
        have fmz := fm.z
        have fmc := fm.c
        refine S_ix T.el57 rfl rfl (by omega) (by omega) ?_
        rw [Nat.zero_add, Int.toNat_natCast]
        refine S_ldn T.ag128 rfl hc5 ?_
        refine S_allocA T.z128 ?_
        generalize hh : Array.push hk _ = g1
        have l1 : B g1 hk.size (s5 (0) (0) (0) (0) (0)) 128 := by rw [← hh]; exact B.new _ _ _
        have hEg1 : Ext (fun _ => False) hk g1 := by rw [← hh]; exact Ext.push _ _ _
        clear hh
        have lok : ∀ j, j < 5 → okPut g1 ⟨hk.size, j, none⟩ = true := fun j hj => l1.ok (by simpa [s5] using hj)
        refine S_stl T.sz128 rfl rfl rfl rfl (fun j hj => by simp (disch := omega) only [lok]) ?_
        generalize hh : putsH _ _ _ _ = g2
        have l2 : B g2 (hk.size) (s5 ro rh rt rz ru) 128 := by rw [← hh]; exact puts_all (l1) (cs' := (s5 ro rh rt rz ru)) rfl
        have hEg2 : Ext (fun k => k = hk.size) g1 g2 := by rw [← hh]; exact Ext.puts (S := fun k => k = hk.size) rfl _ _ _
        clear hh
        have hbl := bok.lt
        have hE02 : Ext (fun _ => False) hk g2 := hEg1.step hEg2 (fun b hb e => by omega)
        have bo3 := bok.ext hE02 (fun f => f)
        have hEkz := hEk.1
        have hAk := axk.lt
        try clear x0 pr g
        obtain ⟨g, x0, pr⟩ := (axk.new hE02).x
        try clear a0 a1 a2 a3 a4 a5 a6 ao ab aok pok ook tok gok
        obtain ⟨a0, a1, a2, a3, a4, a5, a6, ao, ab, aok, pok, ook, tok, gok⟩ := aq (x0)
        try clear c0 c1 c2 c3 c4 sok
        obtain ⟨c0, c1, c2, c3, c4, sok⟩ := s5q (l2)
        try clear wok
        have wok : ∀ j, j < c_ * 2 → okPut g2 ⟨h1.size, j, none⟩ = true := fun j hj => bo3.ok (by (try simp only [Array.size_setIfInBounds]); omega)
        refine S_nil (hK16 _ _ (V_keep [0, 1, 7, 10, 11, 12] (by simp only [proj, lk, reduceIte, Nat.reduceEqDiff]; rfl) ?_)); clear hK16
        refine V_sr T.mix (by kernel_rfl) (fun K17 hK17 => ?_)
        refine S_mv rfl ?_
        refine S_mv rfl ?_
        first | refine S_fa0 T.f128_1 rfl ?_ | refine S_fa T.f128_1 rfl ?_
        refine S_ldK T.ag3 rfl (fun K' hK' => ?_)
        simp (disch := omega) only [a0, a1, a2, a3, a4, a5, a6, ao, ab, c0, c1, c2, c3, c4, oP_some, Nat.add_zero]
        refine hK' _ ?_; clear hK' K'
        refine S_addN (rh + 6) rfl rfl (by omega) (by omega) ?_
        first | refine S_fa0 T.f128_2 rfl ?_ | refine S_fa T.f128_2 rfl ?_
        refine S_ldK T.ag3 rfl (fun K' hK' => ?_)
        simp (disch := omega) only [a0, a1, a2, a3, a4, a5, a6, ao, ab, c0, c1, c2, c3, c4, oP_some, Nat.add_zero]
        refine hK' _ ?_; clear hK' K'
        refine S_call T.hb65 rfl ?_
        have hdr := adrain_spec g2 V A K t fo ft1 gk (axk.new hE02) stk otk (dsk.new hE02) hV raw (rh + 6) rt fmz (by omega) (by omega) (by omega)
        obtain ⟨dn, dsm, de, hdv, hde, hd0⟩ := dnV_c (ruF (raw.extract (rh + 6) rt))
        rw [hdv] at hdr
        refine FC.mono hdr ?_
        rintro v' g3 ⟨rfl, ⟨st3, ot3, ds3, hst3⟩, ⟨gn3, ax3, hpr3⟩, hEg3⟩
        have hbk := bok.lt
        have bo4 := bo3.ext hEg3 (fun e => by rcases e with e | e; (have h9 := hV _ e; omega); (rw [at_def] at e; omega))
        have l3 := l2.ext hEg3 (fun e => by rcases e with e | e; (have h9 := hV _ e; omega); (rw [at_def] at e; omega))
        have hE3 : Ext (DTA V A) h g3 := (hEk.step hE02 (fun z hz f => f.elim)).trans hEg3
        have ho3 := out_le raw ds3
        try clear x0 pr g
        obtain ⟨g, x0, pr⟩ := ax3.x
        try clear a0 a1 a2 a3 a4 a5 a6 ao ab aok pok ook tok gok
        obtain ⟨a0, a1, a2, a3, a4, a5, a6, ao, ab, aok, pok, ook, tok, gok⟩ := aq (x0)
        try clear c0 c1 c2 c3 c4 sok
        obtain ⟨c0, c1, c2, c3, c4, sok⟩ := s5q (l3)
        try clear wok
        have wok : ∀ j, j < c_ * 2 → okPut g3 ⟨h1.size, j, none⟩ = true := fun j hj => bo4.ok (by (try simp only [Array.size_setIfInBounds]); omega)
        refine S_mv rfl ?_
        refine S_ex rfl rfl ?_
        refine S_ex rfl rfl ?_
        refine S_ex rfl rfl ?_
        refine S_as rfl ?_
        refine S_as rfl ?_
        refine S_as rfl ?_
        refine S_nil (hK17 _ _ (V_keep [0, 1, 7, 10, 11, 12, 13, 14, 15] (by simp only [proj, lk, reduceIte, Nat.reduceEqDiff]; rfl) ?_)); clear hK17
        refine V_seq (fun K18 hK18 => ?_)
        refine V_sr T.mix (by kernel_rfl) (fun K19 hK19 => ?_)
        refine S_mv rfl ?_
        refine S_bin rfl rfl rfl ?_
        refine S_nil (hK19 _ _ (V_keep [0, 1, 7, 10, 11, 12, 13, 14, 15, 57] (by simp only [proj, lk, reduceIte, Nat.reduceEqDiff]; rfl) ?_)); clear hK19
        refine V_condp rfl (fun c124 => ?_) (fun c124 => ?_)
        · skip
          refine V_sr T.mix (by kernel_rfl) (fun K20 hK20 => ?_)
          refine S_mv rfl ?_
          first | refine S_fa0 T.f128_0 rfl ?_ | refine S_fa T.f128_0 rfl ?_
          refine S_ldK T.ag3 rfl (fun K' hK' => ?_)
          simp (disch := omega) only [a0, a1, a2, a3, a4, a5, a6, ao, ab, c0, c1, c2, c3, c4, oP_some, Nat.add_zero]
          refine hK' _ ?_; clear hK' K'
          refine S_as rfl ?_
          refine S_as rfl ?_
          refine S_as rfl ?_
          refine S_nil (hK20 _ _ (V_keep [4, 5, 6] (by simp only [proj, lk, reduceIte, Nat.reduceEqDiff]; rfl) ?_)); clear hK20
          refine V_ret ?_
          refine hR _ _ (ret3 rfl rfl rfl rfl ?_)
          have hen : enE raw (cel raw i) = de := by unfold enE txR; rw [← erh, ← ert, if_pos (by omega)]; exact hde.symm
          have hq : unE raw c_ 0 = (de, ro) := by rw [hun, unE_step (by omega), if_pos (by rw [hen]; omega), hen, ← ero]
          have hug : unG raw = (de, ro) := by rw [li_un0 (by rw [hl0]), ← ecn]; exact hq
          rw [hug]
          exact ⟨none, [], by rw [if_neg (by simp only []; omega)], rfl, .inl ⟨rfl, rfl⟩, ⟨ft1, _, ax3⟩, fun z => absurd (by rw [hl0]) z, ⟨_, _, ds3, fun z => by simp only [] at z; omega⟩, hE3⟩
        · skip
          have de0 : (ruF (raw.extract (rh + 6) rt)).e = 0 := by omega
          obtain ⟨hdn, hdsm⟩ := hd0 de0
          obtain ⟨hs1, hs2⟩ := hst3 de0
          have hpr := hpr3 de0
          rw [hs2] at ho3
          have hzl := mkS_size (ruF (raw.extract (rh + 6) rt)).out
          refine V_skipk [0, 1, 7, 10, 11, 12, 13, 14] (by simp only [proj, lk, reduceIte, Nat.reduceEqDiff]; rfl) ?_
          refine hK18 _ _ ?_; clear hK18
          refine V_seq (fun K21 hK21 => ?_)
          refine V_sr T.mix (by kernel_rfl) (fun K22 hK22 => ?_)
          refine S_mv rfl ?_
          first | refine S_fa0 T.f128_3 rfl ?_ | refine S_fa T.f128_3 rfl ?_
          refine S_ldK T.ag3 rfl (fun K' hK' => ?_)
          simp (disch := omega) only [a0, a1, a2, a3, a4, a5, a6, ao, ab, c0, c1, c2, c3, c4, oP_some, Nat.add_zero]
          refine hK' _ ?_; clear hK' K'
          refine S_bin rfl rfl rfl ?_
          refine S_nil (hK22 _ _ (V_keep [0, 1, 7, 10, 11, 12, 13, 14, 64] (by simp only [proj, lk, reduceIte, Nat.reduceEqDiff]; rfl) ?_)); clear hK22
          refine V_condp rfl (fun c127 => ?_) (fun c127 => ?_)
          · skip
            refine V_sr T.mix (by kernel_rfl) (fun K23 hK23 => ?_)
            first | refine S_fa0 T.f128_0 rfl ?_ | refine S_fa T.f128_0 rfl ?_
            refine S_ldK T.ag3 rfl (fun K' hK' => ?_)
            simp (disch := omega) only [a0, a1, a2, a3, a4, a5, a6, ao, ab, c0, c1, c2, c3, c4, oP_some, Nat.add_zero]
            refine hK' _ ?_; clear hK' K'
            refine S_as rfl ?_
            refine S_as rfl ?_
            refine S_as rfl ?_
            refine S_nil (hK23 _ _ (V_keep [4, 5, 6] (by simp only [proj, lk, reduceIte, Nat.reduceEqDiff]; rfl) ?_)); clear hK23
            refine V_ret ?_
            refine hR _ _ (ret3 rfl rfl rfl rfl ?_)
            have hen : enE raw (cel raw i) = 19 := by unfold enE txR; rw [← erh, ← ert, if_neg (by omega), if_pos (by rw [← erz]; omega)]
            have hq : unE raw c_ 0 = (19, ro) := by rw [hun, unE_step (by omega), if_pos (by rw [hen]; omega), hen, ← ero]
            have hug : unG raw = (19, ro) := by rw [li_un0 (by rw [hl0]), ← ecn]; exact hq
            rw [hug]
            exact ⟨none, [], by rw [if_neg (by simp only []; omega)], rfl, .inl ⟨rfl, rfl⟩, ⟨ft1, _, ax3⟩, fun z => absurd (by rw [hl0]) z, ⟨_, _, ds3, fun z => by simp only [] at z; omega⟩, hE3⟩
          · skip
            refine V_skipk [0, 1, 7, 10, 11, 12, 13, 14] (by simp only [proj, lk, reduceIte, Nat.reduceEqDiff]; rfl) ?_
            refine hK21 _ _ ?_; clear hK21
            refine V_seq (fun K24 hK24 => ?_)
            refine V_sr T.mix (by kernel_rfl) (fun K25 hK25 => ?_)
            refine S_mv rfl ?_
            first | refine S_fa0 T.f128_4 rfl ?_ | refine S_fa T.f128_4 rfl ?_
            refine S_ldK T.ag3 rfl (fun K' hK' => ?_)
            simp (disch := omega) only [a0, a1, a2, a3, a4, a5, a6, ao, ab, c0, c1, c2, c3, c4, oP_some, Nat.add_zero]
            refine hK' _ ?_; clear hK' K'
            refine S_bin rfl rfl rfl ?_
            refine S_nil (hK25 _ _ (V_keep [0, 1, 7, 10, 11, 12, 13, 70] (by simp only [proj, lk, reduceIte, Nat.reduceEqDiff]; rfl) ?_)); clear hK25
            refine V_condp rfl (fun c130 => ?_) (fun c130 => ?_)
            · skip
              refine V_sr T.mix (by kernel_rfl) (fun K26 hK26 => ?_)
              first | refine S_fa0 T.f128_0 rfl ?_ | refine S_fa T.f128_0 rfl ?_
              refine S_ldK T.ag3 rfl (fun K' hK' => ?_)
              simp (disch := omega) only [a0, a1, a2, a3, a4, a5, a6, ao, ab, c0, c1, c2, c3, c4, oP_some, Nat.add_zero]
              refine hK' _ ?_; clear hK' K'
              refine S_as rfl ?_
              refine S_as rfl ?_
              refine S_as rfl ?_
              refine S_nil (hK26 _ _ (V_keep [4, 5, 6] (by simp only [proj, lk, reduceIte, Nat.reduceEqDiff]; rfl) ?_)); clear hK26
              refine V_ret ?_
              refine hR _ _ (ret3 rfl rfl rfl rfl ?_)
              have hen : enE raw (cel raw i) = 18 := by unfold enE txR; rw [← erh, ← ert, if_neg (by omega), if_neg (by rw [← erz]; omega), if_pos (by rw [← eru]; omega)]
              have hq : unE raw c_ 0 = (18, ro) := by rw [hun, unE_step (by omega), if_pos (by rw [hen]; omega), hen, ← ero]
              have hug : unG raw = (18, ro) := by rw [li_un0 (by rw [hl0]), ← ecn]; exact hq
              rw [hug]
              exact ⟨none, [], by rw [if_neg (by simp only []; omega)], rfl, .inl ⟨rfl, rfl⟩, ⟨ft1, _, ax3⟩, fun z => absurd (by rw [hl0]) z, ⟨_, _, ds3, fun z => by simp only [] at z; omega⟩, hE3⟩
            · skip
              refine V_skipk [0, 1, 7, 10, 11, 12, 13] (by simp only [proj, lk, reduceIte, Nat.reduceEqDiff]; rfl) ?_
              refine hK24 _ _ ?_; clear hK24
              refine V_sr T.mix (by kernel_rfl) (fun K27 hK27 => ?_)
              refine S_mv rfl ?_
              refine S_mv rfl ?_
              refine S_mv rfl ?_
              first | refine S_fa0 T.f128_0 rfl ?_ | refine S_fa T.f128_0 rfl ?_
              refine S_ldK T.ag3 rfl (fun K' hK' => ?_)
              simp (disch := omega) only [a0, a1, a2, a3, a4, a5, a6, ao, ab, c0, c1, c2, c3, c4, oP_some, Nat.add_zero]
              refine hK' _ ?_; clear hK' K'
              refine S_addN (ro + 1) rfl rfl (by omega) (by omega) ?_
              first | refine S_fa0 T.f128_1 rfl ?_ | refine S_fa T.f128_1 rfl ?_
              refine S_ldK T.ag3 rfl (fun K' hK' => ?_)
              simp (disch := omega) only [a0, a1, a2, a3, a4, a5, a6, ao, ab, c0, c1, c2, c3, c4, oP_some, Nat.add_zero]
              refine hK' _ ?_; clear hK' K'
              refine S_sl rfl rfl rfl (sliceV_str T.kd9 (by omega) (by omega) (by omega)) ?_
              rw [Int.toNat_natCast, Int.toNat_natCast]
              refine S_ix T.el37 rfl rfl (by omega) (by omega) ?_
              rw [Nat.zero_add, Int.toNat_natCast]
              first | refine S_fa0 T.f104_0 rfl ?_ | refine S_fa T.f104_0 rfl ?_
              refine S_st T.sz9 rfl rfl rfl rfl (by simp (disch := omega) only [wok]) ?_
              generalize hh : putH _ _ _ = g4
              have bo5 : B g4 h1.size (csk.setIfInBounds (i * 2) (.string (raw.extract (ro + 1) rh))) 104 := by rw [← hh]; exact bo4.put _ _
              have hEg4 : Ext (fun z => z = h1.size) g3 g4 := by rw [← hh]; exact Ext.put _ _ rfl
              clear hh
              have l4 := l3.ext hEg4 (fun e => by omega)
              have ax4 := ax3.ext hEg4 (fun z e y => by rw [at_def] at e; omega)
              try clear x0 pr g
              obtain ⟨g, x0, pr⟩ := ax4.x
              try clear a0 a1 a2 a3 a4 a5 a6 ao ab aok pok ook tok gok
              obtain ⟨a0, a1, a2, a3, a4, a5, a6, ao, ab, aok, pok, ook, tok, gok⟩ := aq (x0)
              try clear c0 c1 c2 c3 c4 sok
              obtain ⟨c0, c1, c2, c3, c4, sok⟩ := s5q (l4)
              try clear wok
              have wok : ∀ j, j < c_ * 2 → okPut g4 ⟨h1.size, j, none⟩ = true := fun j hj => bo5.ok (by (try simp only [Array.size_setIfInBounds]); omega)
              refine S_nil (hK27 _ _ (V_keep [0, 1, 7, 10, 11, 13] (by simp only [proj, lk, reduceIte, Nat.reduceEqDiff]; rfl) ?_)); clear hK27
              refine V_reg T.mix (by kernel_rfl) ?_
              refine S_mv rfl ?_
              refine S_mv rfl ?_
              refine S_mv rfl ?_
              refine S_nc rfl ?_
              first | refine S_fa0 T.f59_6 rfl ?_ | refine S_fa T.f59_6 rfl ?_
              refine S_ldK T.ag55 rfl (fun K' hK' => ?_)
              simp (disch := omega) only [a0, a1, a2, a3, a4, a5, a6, ao, ab, c0, c1, c2, c3, c4, oP_some, Nat.add_zero]
              refine hK' _ ?_; clear hK' K'
              refine S_mv rfl ?_
              refine S_sl rfl rfl rfl (sliceV_hi T.el55 (by omega) (by omega)) ?_
              refine S_str T.kd55 T.kd9 T.in9 rfl (srcV_u8p x0.g (by omega)) ?_
              rw [Int.toNat_natCast, hdn, ← hzl, ← bz_len, pre_list hpr, mkS_bz]
              refine S_ix T.el37 rfl rfl (by omega) (by omega) ?_
              rw [Nat.zero_add, Int.toNat_natCast]
              first | refine S_fa0 T.f104_1 rfl ?_ | refine S_fa T.f104_1 rfl ?_
              refine S_st T.sz9 rfl rfl rfl rfl (by simp (disch := omega) only [wok]) ?_
              generalize hh : putH _ _ _ = g5
              have bo6 : B g5 h1.size ((csk.setIfInBounds (i * 2) (.string (raw.extract (ro + 1) rh))).setIfInBounds (i * 2 + 1) (.string (mkS (ruF (raw.extract (rh + 6) rt)).out))) 104 := by rw [← hh]; exact bo5.put _ _
              have hEg5 : Ext (fun z => z = h1.size) g4 g5 := by rw [← hh]; exact Ext.put _ _ rfl
              clear hh
              have hE35 : Ext (fun z => z = h1.size) g3 g5 := hEg4.trans hEg5
              have ax5 := ax3.ext hE35 (fun z e y => by rw [at_def] at e; omega)
              have ds5 := ds3.ext hE35 (fun z e y => by have h9 := hV z e; omega)
              have hE5 : Ext (DTA V A) h g5 := hE3.step hE35 (fun z hz e => by omega)
              have hen0 : enE raw (cel raw i) = 0 := by unfold enE txR; rw [← erh, ← ert, if_neg (by omega), if_neg (by rw [← erz]; omega), if_neg (by rw [← eru]; omega)]
              refine S_nilk [0, 1, 7, 10, 11] (by simp only [proj, lk, reduceIte, Nat.reduceEqDiff]; rfl) ?_
              refine hK15 _ _ ?_; clear hK15
              refine V_reg T.mix (by kernel_rfl) ?_
              refine S_mv rfl ?_
              refine S_addN (i + 1) rfl rfl (by omega) (by omega) ?_
              refine S_as rfl ?_
              refine S_nilk [0, 1, 7, 10, 11] (by simp only [proj, lk, reduceIte, Nat.reduceEqDiff]; rfl) ?_
              exact hK12 _ _ ⟨_, by omega, i + 1, g5, _, gn3, st3, ot3, by omega, ax5, ds5, fun _ => ⟨hs1, by rw [Nat.add_sub_cancel, hs2]; unfold enV txR; rw [← erh, ← ert]⟩, bo6, by simp only [Array.size_setIfInBounds]; exact hcsz, fun k hk => by
                by_cases e : k = i
                · subst e
                  refine ⟨?_, ?_⟩
                  · rw [set_ne (by omega), set_eq (by omega)]; unfold enV nmR; rw [← ero, ← erh]
                  · rw [set_eq (by simp only [Array.size_setIfInBounds]; omega)]; unfold enV txR; rw [← ert, ← erh]
                · rw [set_ne (by omega), set_ne (by omega), set_ne (by omega), set_ne (by omega)]; exact hcs k (by omega), by rw [hun, unE_step (by omega), if_neg (by omega)], hE5, rfl, rfl, rfl⟩
      · skip
        refine V_exitk [10] rfl (by simp only [proj, lk, reduceIte, Nat.reduceEqDiff]; rfl) ?_
        refine hK10 _ _ ?_; clear hK10
        refine V_sr T.mix (by kernel_rfl) (fun K28 hK28 => ?_)
        refine S_mv rfl ?_
        refine S_as rfl ?_
        refine S_as rfl ?_
        refine S_as rfl ?_
        refine S_nil (hK28 _ _ (V_keep [4, 5, 6] (by simp only [proj, lk, reduceIte, Nat.reduceEqDiff]; rfl) ?_)); clear hK28
        refine V_ret ?_
        refine hR _ _ (ret3 rfl rfl rfl rfl ?_)
        have hug : unG raw = (0, 0) := by rw [li_un0 (by rw [hl0]), ← ecn, hun, show c_ - i = 0 by omega]; rfl
        rw [hug]
        have hLl := unL_len raw
        refine ⟨some ⟨h1.size, 0, none⟩, unL raw, by simp, by rw [hLl, ← ecn]; rfl, .inr ⟨h1.size, csk, rfl, hh1, bok, by rw [hLl, ← ecn]; exact hcsz, fun k hk => ?_⟩, ⟨ft1, gk, axk⟩, fun z => absurd (by rw [hl0]) z, ⟨stk, otk, dsk, fun _ z => ?_⟩, hEk⟩
        · rw [hLl] at hk
          rw [unL_at hk]
          exact hcs k (by omega)
        · rw [unL_at (by omega), ← ecn, show c_ = i by omega]
          exact hsk (by omega)
end Go.Proofs.Qxb6500404aGreat
