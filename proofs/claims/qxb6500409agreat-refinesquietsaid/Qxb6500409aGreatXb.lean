import Derived.Test.Qxb6500409aGreatXa
set_option linter.unusedVariables false
set_option linter.unusedSimpArgs false
namespace Go.Proofs.Qxb6500409aGreat.HufW
open Go.Eng Go.Huf

def HC.d (u : HC) : ND := ⟨u.wt, u.ht, u.num, u.par⟩
/-- the coder's own fields stay -/
def KC (u v : HC) : Prop := v.n = u.n ∧ v.lens = u.lens ∧ v.code = u.code ∧ v.root = u.root ∧ v.sub = u.sub ∧ v.top = u.top
theorem KC.refl (u : HC) : KC u u := ⟨rfl, rfl, rfl, rfl, rfl, rfl⟩
theorem IL.nat {h : Heap} {b cap N : Nat} {c : Nat → Nat} (ho : IL h (some ⟨b, 0, none⟩) cap (il N c)) : ∀ j, j < N → cellH h ⟨b, j, none⟩ = some (.int .i64 (c j : Int)) := fun j hj => by rw [ho.at (by rw [il_len]; exact hj), il_at hj]
theorem OL.nat {h : Heap} {b o cap N : Nat} {c : Nat → Nat} (ho : OL h (some ⟨b, o, none⟩) cap (il N c)) : ∀ j, j < N → cellH h ⟨b, o + j, none⟩ = some (.int .i64 (c j : Int)) := fun j hj => by
  obtain ⟨b2, o2, e, _, hg⟩ := ho.get (by rw [il_len]; omega)
  cases e; rw [hg j (by rw [il_len]; exact hj), il_at hj]
theorem IL.of {h : Heap} {b N : Nat} {f : Nat → Nat} (hb : B h b (ia N f) 3) : IL h (some ⟨b, 0, none⟩) N (il N f) := by
  have := IL.new (h := h) (b := b) (l := il N f) (hb.cong (by rw [il_len]; exact arr_ext fun j hj => by rw [il_at hj]))
  rw [il_len] at this; exact this
/-- the living nodes lie in the heap -/
structure TI (N : Nat) (cnt : Nat → Nat) (lv j : Nat) (v : HC) : Prop where
  f : v.fill + j = lv
  rt : RT N cnt (itS N cnt j) lv (lv + j) v.d (In v.heap v.fill)
  hp : Hp v.k v.heap v.fill
  inj : Inj v.heap v.fill
section ti
variable {N lv j : Nat} {cnt : Nat → Nat} {v : HC}
theorem TI.hh (t : TI N cnt lv j v) (hN : N ≤ 265) (hl : liv cnt N = lv) (h0 : 0 < v.fill) (g : Nat) : (itS N cnt j).h g < 1024 := by
  have := itS_h hN (c := cnt) (j := j) (by have := t.f; omega) g
  have := t.f; have : liv cnt N ≤ N := ct_le _ _; omega
theorem TI.sm (t : TI N cnt lv j v) (hN : N ≤ 265) (hl : liv cnt N = lv) (h0 : 0 < v.fill) : Sm v (In v.heap v.fill) := fun y hy => by
  have h1 := t.rt.lt y hy
  obtain ⟨_, h2, h3, _⟩ := t.rt.w y hy
  have h4 := t.hh hN hl h0 (v.num y)
  have : liv cnt N ≤ N := ct_le _ _
  have := t.f
  refine ⟨by omega, ?_, Nat.lt_of_lt_of_le h3 (by omega)⟩
  have h5 : v.ht y = (itS N cnt j).h (v.num y) := h2.symm
  omega
end ti
theorem TI.two {N lv j f : Nat} {cnt : Nat → Nat} {v : HC} (t : TI N cnt lv j v) (hN : N ≤ 265) (hl : liv cnt N = lv) (hf : v.fill = f + 2) {H1 : Nat → Nat} (i1 : ∀ y, In H1 (f + 1) y ↔ In v.heap (f + 2) y ∧ y ≠ v.heap 0) (p1 : Hp v.k H1 (f + 1)) :
    In v.heap (f + 2) (v.heap 0) ∧ In v.heap (f + 2) (H1 0) ∧ H1 0 ≠ v.heap 0 ∧ stp N cnt (itS N cnt j) = joinS cnt (itS N cnt j) (v.num (v.heap 0)) (v.num (H1 0)) := by
  have ha : In v.heap (f + 2) (v.heap 0) := ⟨0, by omega, rfl⟩
  have hb := (i1 (H1 0)).1 ⟨0, by omega, rfl⟩
  have hh := t.hh hN hl (by omega)
  have hp := t.hp
  have rt := t.rt
  rw [hf] at hp rt
  refine ⟨ha, hb.1, hb.2, stp_is (rt.lea hh (by omega) ha (fun y ⟨i, hi, e⟩ => ?_)) (rt.nxt hh (by omega) ha hb.1 hb.2 (fun y hy hn => ?_))⟩
  · rw [← e]; exact hp.root i hi
  · obtain ⟨i, hi, e⟩ := (i1 y).2 ⟨hy, hn⟩
    rw [← e]; exact p1.root i hi
/-- the record behind a join -/
def jnR (v : HC) (m a b : Nat) (H : Nat → Nat) (f : Nat) : HC := { v with wt := ups v.wt m (v.wt a + v.wt b), ht := ups v.ht m (max (v.ht a) (v.ht b) + 1), num := ups v.num m (v.num a), par := ups (ups v.par a m) b m, heap := H, fill := f }
theorem TI.pre {N lv j f : Nat} {cnt : Nat → Nat} {v : HC} (t : TI N cnt lv j v) (hN : N ≤ 265) (hl : liv cnt N = lv) (hf : v.fill = f + 2) {H2 : Nat → Nat} {a b : Nat} (ha : In v.heap (f + 2) a) (hb : In v.heap (f + 2) b) (i2 : ∀ y, In H2 f y → In v.heap (f + 2) y) (p2 : Hp v.k H2 f) :
    Sm (jnR v (lv + j) a b H2 f) (fun y => In H2 f y ∨ y = lv + j) ∧ Hp (jnR v (lv + j) a b H2 f).k H2 f ∧ ¬ In H2 f (lv + j) := by
  have hlt : ∀ y, In v.heap (f + 2) y → y < lv + j := fun y hy => t.rt.lt y (by rw [hf]; exact hy)
  have sm := t.sm hN hl (by omega)
  rw [hf] at sm
  have : liv cnt N ≤ N := ct_le _ _
  have tf := t.f
  refine ⟨fun y hy => ?_, p2.congr (fun i hi => ?_), fun hy => by have := hlt _ (i2 _ hy); omega⟩
  · rcases hy with hy | hy
    · have h1 := hlt y (i2 y hy)
      obtain ⟨s1, s2, s3⟩ := sm y (i2 y hy)
      simp only [jnR]
      rw [ups_ne _ _ (by omega), ups_ne _ _ (by omega)]
      exact ⟨s1, s2, s3⟩
    · subst hy
      simp only [jnR]
      rw [ups_eq, ups_eq]
      have h1 := sm a ha
      obtain ⟨_, a2, _⟩ := t.rt.w a (by rw [hf]; exact ha)
      obtain ⟨_, b2, _⟩ := t.rt.w b (by rw [hf]; exact hb)
      have a3 := itS_h hN (c := cnt) (j := j) (by omega) (v.num a)
      have b3 := itS_h hN (c := cnt) (j := j) (by omega) (v.num b)
      have a4 : v.ht a = (itS N cnt j).h (v.num a) := a2.symm
      have b4 : v.ht b = (itS N cnt j).h (v.num b) := b2.symm
      exact ⟨by omega, by omega, h1.2.2⟩
  · have h1 := hlt (H2 i) (i2 _ ⟨i, hi, rfl⟩)
    unfold HC.k nk
    simp only [jnR]
    rw [ups_ne _ _ (by omega), ups_ne _ _ (by omega), ups_ne _ _ (by omega)]
theorem TI.post {N lv j f : Nat} {cnt : Nat → Nat} {v : HC} (t : TI N cnt lv j v) (hf : v.fill = f + 2) {H1 H2 H3 : Nat → Nat} (h12 : In v.heap (f + 2) (v.heap 0) ∧ In v.heap (f + 2) (H1 0) ∧ H1 0 ≠ v.heap 0 ∧ stp N cnt (itS N cnt j) = joinS cnt (itS N cnt j) (v.num (v.heap 0)) (v.num (H1 0))) (i1 : ∀ y, In H1 (f + 1) y ↔ In v.heap (f + 2) y ∧ y ≠ v.heap 0) (i2 : ∀ y, In H2 f y ↔ In H1 (f + 1) y ∧ y ≠ H1 0) (i3 : ∀ y, In H3 (f + 1) y ↔ In H2 f y ∨ y = lv + j) (p3 : Hp (jnR v (lv + j) (v.heap 0) (H1 0) H2 f).k H3 (f + 1)) (j3 : Inj H3 (f + 1)) :
    TI N cnt lv (j + 1) (jnR v (lv + j) (v.heap 0) (H1 0) H3 (f + 1)) := by
  have tf := t.f
  have rt := t.rt
  rw [hf] at rt
  refine ⟨by simp only [jnR]; omega, ?_, p3, j3⟩
  rw [itS, h12.2.2.2]
  exact rt.join h12.1 h12.2.1 (Ne.symm h12.2.2.1) (fun y => by
    show In H3 (f + 1) y ↔ _
    rw [i3, i2, i1]; constructor
    · rintro (⟨⟨h1, h2⟩, h3⟩ | h)
      · exact .inl ⟨h1, h2, h3⟩
      · exact .inr h
    · rintro (⟨h1, h2, h3⟩ | h)
      · exact .inl ⟨⟨h1, h2⟩, h3⟩
      · exact .inr h)
/-- the first heap: the leaves -/
structure LI (cnt : Nat → Nat) (s : Nat) (v : HC) : Prop where
  lf : Lf cnt s v.fill v.d
  hp : Hp v.k v.heap v.fill
  inj : Inj v.heap v.fill
  al : ∀ y, In v.heap v.fill y ↔ y < v.fill
theorem LI.z {cnt : Nat → Nat} {v : HC} (h : v.fill = 0) : LI cnt 0 v := by
  refine ⟨by rw [h]; exact Lf.z _ _, fun i h0 hi => by omega, fun i k hi => by omega, fun y => ?_⟩
  rw [h]; exact ⟨fun ⟨i, hi, _⟩ => by omega, fun hy => by omega⟩
theorem LI.skip {cnt : Nat → Nat} {s : Nat} {v : HC} (t : LI cnt s v) (h : cnt s = 0) : LI cnt (s + 1) v := ⟨t.lf.skip h, t.hp, t.inj, t.al⟩
theorem LI.le {cnt : Nat → Nat} {s : Nat} {v : HC} (t : LI cnt s v) : v.fill ≤ s := by rw [t.lf.me]; exact ct_le _ _
def lfR (v : HC) (w s : Nat) : HC := { v with wt := ups v.wt v.fill w, ht := ups v.ht v.fill 0, num := ups v.num v.fill s }
theorem LI.pre {cnt : Nat → Nat} {s : Nat} {v : HC} (t : LI cnt s v) (hs : s < 265) (w : Nat) : Sm (lfR v w s) (fun y => In v.heap v.fill y ∨ y = v.fill) ∧ Hp (lfR v w s).k v.heap v.fill ∧ ¬ In v.heap v.fill v.fill := by
  have hle := t.le
  refine ⟨fun y hy => ?_, t.hp.congr (fun i hi => ?_), fun hy => by have := (t.al _).1 hy; omega⟩
  · rcases hy with hy | hy
    · have h1 := (t.al y).1 hy
      obtain ⟨n1, n2, n3, n4, n5⟩ := t.lf.nx y h1
      simp only [lfR]
      rw [ups_ne _ _ (by omega), ups_ne _ _ (by omega)]
      have e1 : v.num y < s := n1
      have e2 : v.ht y = 0 := n4
      omega
    · subst hy
      simp only [lfR]
      rw [ups_eq, ups_eq]; omega
  · have h1 := (t.al _).1 ⟨i, hi, rfl⟩
    unfold HC.k nk
    simp only [lfR]
    rw [ups_ne _ _ (by omega), ups_ne _ _ (by omega), ups_ne _ _ (by omega)]
theorem LI.add {cnt : Nat → Nat} {s : Nat} {v : HC} (t : LI cnt s v) (h : 0 < cnt s) {H : Nat → Nat} (hp : Hp (lfR v (cnt s) s).k H (v.fill + 1)) (hi : Inj H (v.fill + 1)) (hy : ∀ y, In H (v.fill + 1) y ↔ In v.heap v.fill y ∨ y = v.fill) : LI cnt (s + 1) { lfR v (cnt s) s with heap := H, fill := v.fill + 1 } := by
  refine ⟨t.lf.add h rfl rfl rfl, hp, hi, fun y => ?_⟩
  show In H (v.fill + 1) y ↔ y < v.fill + 1
  rw [hy, t.al]; omega
theorem LI.ti {cnt : Nat → Nat} {N : Nat} {v : HC} (t : LI cnt N v) : liv cnt N = v.fill ∧ TI N cnt v.fill 0 v := by
  refine ⟨t.lf.me.symm, rfl, ?_, t.hp, t.inj⟩
  exact (t.lf.rt).congr t.al
/-- the end: one node is left -/
theorem TI.top {N lv j : Nat} {cnt : Nat → Nat} {v : HC} (t : TI N cnt lv j v) (h1 : v.fill = 1) : ∃ r, lv + j = r + 1 ∧ lv = j + 1 ∧ ∀ y, In v.heap v.fill y ↔ y = r := by
  have := t.f
  refine ⟨lv + j - 1, by omega, by omega, ?_⟩
  have rt := t.rt
  rw [show lv + j = (lv + j - 1) + 1 by omega] at rt
  refine rt.top (fun x y hx hy => ?_)
  obtain ⟨a, ha, rfl⟩ := hx
  obtain ⟨b, hb, rfl⟩ := hy
  rw [show a = b by omega]
/-- the depths, from the top down to t -/
structure DI (N lv r : Nat) (ln : Nat → Nat) (v : HC) (dp o : Nat → Nat) (t deep : Nat) : Prop where
  d0 : dp r = 0
  d : ∀ y, t ≤ y → y < r → dp y = dp (v.par y) + 1
  b : ∀ y, t ≤ y → y ≤ r → dp y ≤ r - y
  o1 : ∀ x, t ≤ x → x < lv → o (v.num x) = ln (v.num x)
  o0 : ∀ i, i < N → (∀ x, t ≤ x → x < lv → v.num x ≠ i) → o i = 0
  e : ∀ x, t ≤ x → x < lv → ln (v.num x) ≤ deep
  e2 : deep = 0 ∨ ∃ x, t ≤ x ∧ x < lv ∧ ln (v.num x) = deep
theorem TI.wt {N lv j : Nat} {cnt : Nat → Nat} {v : HC} (t : TI N cnt lv j v) (hN : N ≤ 265) (hl : liv cnt N = lv) (hcb : ∀ i, i < N → cnt i ≤ 1048576) (h0 : 0 < v.fill) : ∀ y, In v.heap v.fill y → v.wt y ≤ 300000000 := fun y hy => by
  have tf := t.f
  obtain ⟨r, r1, r2⟩ := itS_HI (U := 265) (c := cnt) (Nat.le_refl _) hN (show j + 1 ≤ liv cnt N by omega)
  obtain ⟨w1, _, w3, w4⟩ := t.rt.w y hy
  have h1 := r2.sw (v.num y) w3 (by have e : (itS N cnt j).w (v.num y) = v.wt y := w1; have e2 : 0 < v.wt y := w4; omega)
  have h2 : Huf.sm (fun i => if 0 < cnt i ∧ (itS N cnt j).grp i = v.num y then cnt i else 0) N ≤ Huf.sm (fun _ => 1048576) N := sm_le fun i hi => by
    have := hcb i hi
    split <;> omega
  have h3 : ∀ n, Huf.sm (fun _ => 1048576) n = 1048576 * n := fun n => by
    induction n with
    | zero => rfl
    | succ n ih => rw [Huf.sm, ih]; omega
  rw [h3] at h2
  have e : (itS N cnt j).w (v.num y) = v.wt y := w1
  omega
section di
variable {N lv r x deep : Nat} {cnt ln : Nat → Nat} {v : HC} {dp o : Nat → Nat} {s : HS} {L : Nat → Prop}
theorem DI.par (di : DI N lv r ln v dp o (x + 1) deep) (hx : x < r) (rt : RT N cnt s lv (r + 1) v.d L) (hL : ∀ y, L y ↔ y = r) : x < v.par x ∧ v.par x ≤ r ∧ dp (v.par x) ≤ r - v.par x := by
  have := rt.upw x (by omega) (fun e => by have := (hL x).1 e; omega)
  have h1 : x < v.par x := this.1
  have h2 : v.par x < r + 1 := this.2
  exact ⟨h1, by omega, di.b _ (by omega) (by omega)⟩
theorem DI.bas (di : DI N lv r ln v dp o (x + 1) deep) (hx : x < r) (rt : RT N cnt s lv (r + 1) v.d L) (hL : ∀ y, L y ↔ y = r) : ups dp x (dp (v.par x) + 1) r = 0 ∧ (∀ y, x ≤ y → y < r → ups dp x (dp (v.par x) + 1) y = ups dp x (dp (v.par x) + 1) (v.par y) + 1) ∧ ∀ y, x ≤ y → y ≤ r → ups dp x (dp (v.par x) + 1) y ≤ r - y := by
  obtain ⟨p1, p2, p3⟩ := di.par hx rt hL
  refine ⟨by rw [ups_ne _ _ (by omega)]; exact di.d0, fun y h1 h2 => ?_, fun y h1 h2 => ?_⟩
  · have hpy := rt.upw y (by omega) (fun e => by have := (hL y).1 e; omega)
    have hpy1 : y < v.par y := hpy.1
    rw [ups_ne _ _ (show v.par y ≠ x by omega)]
    by_cases e : y = x
    · rw [e, ups_eq]
    · rw [ups_ne _ _ e]; exact di.d y (by omega) h2
  · by_cases e : y = x
    · rw [e, ups_eq]; omega
    · rw [ups_ne _ _ e]; exact di.b y (by omega) h2
theorem DI.node (di : DI N lv r ln v dp o (x + 1) deep) (hx : x < r) (rt : RT N cnt s lv (r + 1) v.d L) (hL : ∀ y, L y ↔ y = r) (hl : lv ≤ x) : DI N lv r ln v (ups dp x (dp (v.par x) + 1)) o x deep := by
  obtain ⟨b1, b2, b3⟩ := di.bas hx rt hL
  refine ⟨b1, b2, b3, fun y h1 h2 => by omega, fun i hi h => di.o0 i hi (fun y h1 h2 => h y (by omega) h2), fun y h1 h2 => by omega, ?_⟩
  rcases di.e2 with q | ⟨y, y1, y2, y3⟩
  · exact .inl q
  · omega
theorem DI.is (di : DI N lv r ln v dp o (x + 1) deep) (hx : x < r) (rt : RT N cnt s lv (r + 1) v.d L) (hL : ∀ y, L y ↔ y = r) (hs : s.ln = ln) (hl : x < lv) : dp (v.par x) + 1 = ln (v.num x) := by
  obtain ⟨b1, b2, _⟩ := di.bas hx rt hL
  have := rt.dep hL hl b1 b2
  rw [ups_eq, hs] at this; exact this
theorem DI.leaf (di : DI N lv r ln v dp o (x + 1) deep) (hx : x < r) (rt : RT N cnt s lv (r + 1) v.d L) (hL : ∀ y, L y ↔ y = r) (hs : s.ln = ln) (hl : x < lv) {o' : Nat → Nat} {deep' : Nat} (ho : o' = ups o (v.num x) (dp (v.par x) + 1)) (hd : deep' = max deep (dp (v.par x) + 1)) : DI N lv r ln v (ups dp x (dp (v.par x) + 1)) o' x deep' := by
  obtain ⟨b1, b2, b3⟩ := di.bas hx rt hL
  have his := di.is hx rt hL hs hl
  refine ⟨b1, b2, b3, fun y h1 h2 => ?_, fun i hi h => ?_, fun y h1 h2 => ?_, .inr ?_⟩
  · rw [ho]
    by_cases e : v.num y = v.num x
    · rw [e, ups_eq]; exact his
    · rw [ups_ne _ _ e]; exact di.o1 y (by have : y ≠ x := fun q => e (by rw [q]); omega) h2
  · rw [ho, ups_ne _ _ (fun e => h x (Nat.le_refl _) hl e.symm)]
    exact di.o0 i hi (fun y h1 h2 => h y (by omega) h2)
  · by_cases e : y = x
    · rw [e]; omega
    · have := di.e y (by omega) h2; omega
  · rcases Nat.lt_or_ge deep (dp (v.par x) + 1) with q | q
    · exact ⟨x, Nat.le_refl _, hl, by omega⟩
    · rcases di.e2 with t | ⟨y, y1, y2, y3⟩
      · omega
      · exact ⟨y, by omega, y2, by omega⟩
end di
theorem DI.end {N lv r deep : Nat} {cnt : Nat → Nat} {v : HC} {dp o : Nat → Nat} {s : HS} {L : Nat → Prop} (di : DI N lv r (pln N cnt) v dp o 0 deep) (rt : RT N cnt s lv (r + 1) v.d L) (pl : PL N cnt (pln N cnt)) : (∀ i, i < N → o i = pln N cnt i) ∧ (∀ i, i < N → pln N cnt i ≤ deep) ∧ (deep = 0 ∨ ∃ i, i < N ∧ pln N cnt i = deep) := by
  refine ⟨fun i hi => ?_, fun i hi => ?_, ?_⟩
  · rcases Nat.eq_zero_or_pos (cnt i) with q | q
    · rw [di.o0 i hi (fun x _ h2 e => ?_), (pl.z i hi).2 q]
      have h3 : 0 < cnt (v.num x) := (rt.lf x h2).2
      rw [e] at h3; omega
    · obtain ⟨x, x1, x2⟩ := rt.lx i hi q
      have e : v.num x = i := x2
      rw [← e]; exact di.o1 x (Nat.zero_le _) x1
  · rcases Nat.eq_zero_or_pos (cnt i) with q | q
    · rw [(pl.z i hi).2 q]; omega
    · obtain ⟨x, x1, x2⟩ := rt.lx i hi q
      have e : v.num x = i := x2
      rw [← e]; exact di.e x (Nat.zero_le _) x1
  · rcases di.e2 with q | ⟨x, _, x2, x3⟩
    · exact .inl q
    · exact .inr ⟨_, (rt.lf x x2).1, x3⟩
theorem DI.z {N lv r : Nat} {ln : Nat → Nat} {v : HC} {dp : Nat → Nat} (hl : lv ≤ r) : DI N lv r ln v (ups dp r 0) (fun _ => 0) r 0 :=
  ⟨ups_eq _ _ _, fun y h1 h2 => by omega, fun y h1 h2 => by rw [show y = r by omega, ups_eq]; omega, fun x h1 h2 => by omega, fun _ _ _ => rfl, fun x h1 h2 => by omega, .inl rfl⟩
end Go.Proofs.Qxb6500409aGreat.HufW
