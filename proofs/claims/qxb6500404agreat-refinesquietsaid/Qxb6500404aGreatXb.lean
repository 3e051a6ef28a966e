import Derived.Test.Qxb6500404aGreatXa
set_option linter.unusedVariables false
set_option linter.unusedSimpArgs false
namespace Go.Proofs.Qxb6500404aGreat.HufW
open Go.Eng Go.Huf

def HC.d (u : HC) : ND := ⟨u.wt, u.ht, u.num, u.par⟩
/-- the coder's own fields stay -/
def KC (u v : HC) : Prop := v.n = u.n ∧ v.lens = u.lens ∧ v.code = u.code ∧ v.root = u.root ∧ v.sub = u.sub ∧ v.top = u.top
theorem KC.refl (u : HC) : KC u u := ⟨rfl, rfl, rfl, rfl, rfl, rfl⟩
theorem IL.nat {h : Heap} {b cap N : Nat} {c : Nat → Nat} (ho : IL h (some ⟨b, 0, none⟩) cap (il N c)) : ∀ j, j < N → cellH h ⟨b, j, none⟩ = some (.int .i64 (c j : Int)) := fun j hj => by rw [ho.at (by rw [il_len]; exact hj), il_at hj]
theorem OL.nat {h : Heap} {b o cap N : Nat} {c : Nat → Nat} (ho : OL h (some ⟨b, o, none⟩) cap (il N c)) : ∀ j, j < N → cellH h ⟨b, o + j, none⟩ = some (.int .i64 (c j : Int)) := fun j hj => by
  obtain ⟨b2, o2, e, _, hg⟩ := ho.get (by rw [il_len]; omega)
  cases e; rw [hg j (by rw [il_len]; exact hj), il_at hj]
theorem IL.of {h : Heap} {b N : Nat} {f : Nat → Nat} (hb : B h b (ia N f) 3) : IL h (some ⟨b, 0, none⟩) N (il N f) := by
  have := IL.new (h := h) (b := b) (l := il N f) (hb.cong (by rw [il_len]; exact arr_ext fun j hj => by rw [il_at hj]))
  rw [il_len] at this; exact this
/-- the living nodes lie in the heap -/
structure TI (N : Nat) (cnt : Nat → Nat) (lv j : Nat) (v : HC) : Prop where
  f : v.fill + j = lv
  rt : RT N cnt (itS N cnt j) lv (lv + j) v.d (In v.heap v.fill)
  hp : Hp v.k v.heap v.fill
  inj : Inj v.heap v.fill
section ti
variable {N lv j : Nat} {cnt : Nat → Nat} {v : HC}
theorem TI.hh (t : TI N cnt lv j v) (hN : N ≤ 265) (hl : liv cnt N = lv) (h0 : 0 < v.fill) (g : Nat) : (itS N cnt j).h g < 1024 := by
  have := itS_h hN (c := cnt) (j := j) (by have := t.f; omega) g
  have := t.f; have : liv cnt N ≤ N := ct_le _ _; omega
theorem TI.sm (t : TI N cnt lv j v) (hN : N ≤ 265) (hl : liv cnt N = lv) (h0 : 0 < v.fill) : Sm v (In v.heap v.fill) := fun y hy => by
  have h1 := t.rt.lt y hy
  obtain ⟨_, h2, h3, _⟩ := t.rt.w y hy
  have h4 := t.hh hN hl h0 (v.num y)
  have : liv cnt N ≤ N := ct_le _ _
  have := t.f
  refine ⟨by omega, ?_, Nat.lt_of_lt_of_le h3 (by omega)⟩
  have h5 : v.ht y = (itS N cnt j).h (v.num y) := h2.symm
  omega
end ti
theorem TI.two {N lv j f : Nat} {cnt : Nat → Nat} {v : HC} (t : TI N cnt lv j v) (hN : N ≤ 265) (hl : liv cnt N = lv) (hf : v.fill = f + 2) {H1 : Nat → Nat} (i1 : ∀ y, In H1 (f + 1) y ↔ In v.heap (f + 2) y ∧ y ≠ v.heap 0) (p1 : Hp v.k H1 (f + 1)) :
    In v.heap (f + 2) (v.heap 0) ∧ In v.heap (f + 2) (H1 0) ∧ H1 0 ≠ v.heap 0 ∧ stp N cnt (itS N cnt j) = joinS cnt (itS N cnt j) (v.num (v.heap 0)) (v.num (H1 0)) := by
  have ha : In v.heap (f + 2) (v.heap 0) := ⟨0, by omega, rfl⟩
  have hb := (i1 (H1 0)).1 ⟨0, by omega, rfl⟩
  have hh := t.hh hN hl (by omega)
  have hp := t.hp
  have rt := t.rt
  rw [hf] at hp rt
  refine ⟨ha, hb.1, hb.2, stp_is (rt.lea hh (by omega) ha (fun y ⟨i, hi, e⟩ => ?_)) (rt.nxt hh (by omega) ha hb.1 hb.2 (fun y hy hn => ?_))⟩
  · rw [← e]; exact hp.root i hi
  · obtain ⟨i, hi, e⟩ := (i1 y).2 ⟨hy, hn⟩
    rw [← e]; exact p1.root i hi
/-- the record behind a join -/
def jnR (v : HC) (m a b : Nat) (H : Nat → Nat) (f : Nat) : HC := { v with wt := ups v.wt m (v.wt a + v.wt b), ht := ups v.ht m (max (v.ht a) (v.ht b) + 1), num := ups v.num m (v.num a), par := ups (ups v.par a m) b m, heap := H, fill := f }
theorem TI.pre {N lv j f : Nat} {cnt : Nat → Nat} {v : HC} (t : TI N cnt lv j v) (hN : N ≤ 265) (hl : liv cnt N = lv) (hf : v.fill = f + 2) {H2 : Nat → Nat} {a b : Nat} (ha : In v.heap (f + 2) a) (hb : In v.heap (f + 2) b) (i2 : ∀ y, In H2 f y → In v.heap (f + 2) y) (p2 : Hp v.k H2 f) :
    Sm (jnR v (lv + j) a b H2 f) (fun y => In H2 f y ∨ y = lv + j) ∧ Hp (jnR v (lv + j) a b H2 f).k H2 f ∧ ¬ In H2 f (lv + j) := by
  have hlt : ∀ y, In v.heap (f + 2) y → y < lv + j := fun y hy => t.rt.lt y (by rw [hf]; exact hy)
  have sm := t.sm hN hl (by omega)
  rw [hf] at sm
  have : liv cnt N ≤ N := ct_le _ _
  have tf := t.f
  refine ⟨fun y hy => ?_, p2.congr (fun i hi => ?_), fun hy => by have := hlt _ (i2 _ hy); omega⟩
  · rcases hy with hy | hy
    · have h1 := hlt y (i2 y hy)
      obtain ⟨s1, s2, s3⟩ := sm y (i2 y hy)
      simp only [jnR]
      rw [ups_ne _ _ (by omega), ups_ne _ _ (by omega)]
      exact ⟨s1, s2, s3⟩
    · subst hy
      simp only [jnR]
      rw [ups_eq, ups_eq]
      have h1 := sm a ha
      obtain ⟨_, a2, _⟩ := t.rt.w a (by rw [hf]; exact ha)
      obtain ⟨_, b2, _⟩ := t.rt.w b (by rw [hf]; exact hb)
      have a3 := itS_h hN (c := cnt) (j := j) (by omega) (v.num a)
      have b3 := itS_h hN (c := cnt) (j := j) (by omega) (v.num b)
      have a4 : v.ht a = (itS N cnt j).h (v.num a) := a2.symm
      have b4 : v.ht b = (itS N cnt j).h (v.num b) := b2.symm
      exact ⟨by omega, by omega, h1.2.2⟩
  · have h1 := hlt (H2 i) (i2 _ ⟨i, hi, rfl⟩)
    unfold HC.k nk
    simp only [jnR]
    rw [ups_ne _ _ (by omega), ups_ne _ _ (by omega), ups_ne _ _ (by omega)]
theorem TI.post {N lv j f : Nat} {cnt : Nat → Nat} {v : HC} (t : TI N cnt lv j v) (hf : v.fill = f + 2) {H1 H2 H3 : Nat → Nat} (h12 : In v.heap (f + 2) (v.heap 0) ∧ In v.heap (f + 2) (H1 0) ∧ H1 0 ≠ v.heap 0 ∧ stp N cnt (itS N cnt j) = joinS cnt (itS N cnt j) (v.num (v.heap 0)) (v.num (H1 0))) (i1 : ∀ y, In H1 (f + 1) y ↔ In v.heap (f + 2) y ∧ y ≠ v.heap 0) (i2 : ∀ y, In H2 f y ↔ In H1 (f + 1) y ∧ y ≠ H1 0) (i3 : ∀ y, In H3 (f + 1) y ↔ In H2 f y ∨ y = lv + j) (p3 : Hp (jnR v (lv + j) (v.heap 0) (H1 0) H2 f).k H3 (f + 1)) (j3 : Inj H3 (f + 1)) :
    TI N cnt lv (j + 1) (jnR v (lv + j) (v.heap 0) (H1 0) H3 (f + 1)) := by
  have tf := t.f
  have rt := t.rt
  rw [hf] at rt
  refine ⟨by simp only [jnR]; omega, ?_, p3, j3⟩
  rw [itS, h12.2.2.2]
  exact rt.join h12.1 h12.2.1 (Ne.symm h12.2.2.1) (fun y => by
    show In H3 (f + 1) y ↔ _
    rw [i3, i2, i1]; constructor
    · rintro (⟨⟨h1, h2⟩, h3⟩ | h)
      · exact .inl ⟨h1, h2, h3⟩
      · exact .inr h
    · rintro (⟨h1, h2, h3⟩ | h)
      · exact .inl ⟨⟨h1, h2⟩, h3⟩
      · exact .inr h)
/-- the first heap: the leaves -/
structure LI (cnt : Nat → Nat) (s : Nat) (v : HC) : Prop where
  lf : Lf cnt s v.fill v.d
  hp : Hp v.k v.heap v.fill
  inj : Inj v.heap v.fill
  al : ∀ y, In v.heap v.fill y ↔ y < v.fill
theorem LI.z {cnt : Nat → Nat} {v : HC} (h : v.fill = 0) : LI cnt 0 v := by
  refine ⟨by rw [h]; exact Lf.z _ _, fun i h0 hi => by omega, fun i k hi => by omega, fun y => ?_⟩
  rw [h]; exact ⟨fun ⟨i, hi, _⟩ => by omega, fun hy => by omega⟩
theorem LI.skip {cnt : Nat → Nat} {s : Nat} {v : HC} (t : LI cnt s v) (h : cnt s = 0) : LI cnt (s + 1) v := ⟨t.lf.skip h, t.hp, t.inj, t.al⟩
theorem LI.le {cnt : Nat → Nat} {s : Nat} {v : HC} (t : LI cnt s v) : v.fill ≤ s := by rw [t.lf.me]; exact ct_le _ _
def lfR (v : HC) (w s : Nat) : HC := { v with wt := ups v.wt v.fill w, ht := ups v.ht v.fill 0, num := ups v.num v.fill s }
theorem LI.pre {cnt : Nat → Nat} {s : Nat} {v : HC} (t : LI cnt s v) (hs : s < 265) (w : Nat) : Sm (lfR v w s) (fun y => In v.heap v.fill y ∨ y = v.fill) ∧ Hp (lfR v w s).k v.heap v.fill ∧ ¬ In v.heap v.fill v.fill := by
  have hle := t.le
  refine ⟨fun y hy => ?_, t.hp.congr (fun i hi => ?_), fun hy => by have := (t.al _).1 hy; omega⟩
  · rcases hy with hy | hy
    · have h1 := (t.al y).1 hy
      obtain ⟨n1, n2, n3, n4, n5⟩ := t.lf.nx y h1
      simp only [lfR]
      rw [ups_ne _ _ (by omega), ups_ne _ _ (by omega)]
      have e1 : v.num y < s := n1
      have e2 : v.ht y = 0 := n4
      omega
    · subst hy
      simp only [lfR]
      rw [ups_eq, ups_eq]; omega
  · have h1 := (t.al _).1 ⟨i, hi, rfl⟩
    unfold HC.k nk
    simp only [lfR]
    rw [ups_ne _ _ (by omega), ups_ne _ _ (by omega), ups_ne _ _ (by omega)]
theorem LI.add {cnt : Nat → Nat} {s : Nat} {v : HC} (t : LI cnt s v) (h : 0 < cnt s) {H : Nat → Nat} (hp : Hp (lfR v (cnt s) s).k H (v.fill + 1)) (hi : Inj H (v.fill + 1)) (hy : ∀ y, In H (v.fill + 1) y ↔ In v.heap v.fill y ∨ y = v.fill) : LI cnt (s + 1) { lfR v (cnt s) s with heap := H, fill := v.fill + 1 } := by
  refine ⟨t.lf.add h rfl rfl rfl, hp, hi, fun y => ?_⟩
  show In H (v.fill + 1) y ↔ y < v.fill + 1
  rw [hy, t.al]; omega
theorem LI.ti {cnt : Nat → Nat} {N : Nat} {v : HC} (t : LI cnt N v) : liv cnt N = v.fill ∧ TI N cnt v.fill 0 v := by
  refine ⟨t.lf.me.symm, rfl, ?_, t.hp, t.inj⟩
  exact (t.lf.rt).congr t.al
/-- the end: one node is left -/
theorem TI.top {N lv j : Nat} {cnt : Nat → Nat} {v : HC} (t : TI N cnt lv j v) (h1 : v.fill = 1) : ∃ r, lv + j = r + 1 ∧ lv = j + 1 ∧ ∀ y, In v.heap v.fill y ↔ y = r := by
  have := t.f
  refine ⟨lv + j - 1, by omega, by omega, ?_⟩
  have rt := t.rt
  rw [show lv + j = (lv + j - 1) + 1 by omega] at rt
  refine rt.top (fun x y hx hy => ?_)
  obtain ⟨a, ha, rfl⟩ := hx
  obtain ⟨b, hb, rfl⟩ := hy
  rw [show a = b by omega]
/-- the depths, from the top down to t -/
structure DI (N lv r : Nat) (ln : Nat → Nat) (v : HC) (dp o : Nat → Nat) (t deep : Nat) : Prop where
  d0 : dp r = 0
  d : ∀ y, t ≤ y → y < r → dp y = dp (v.par y) + 1
  b : ∀ y, t ≤ y → y ≤ r → dp y ≤ r - y
  o1 : ∀ x, t ≤ x → x < lv → o (v.num x) = ln (v.num x)
  o0 : ∀ i, i < N → (∀ x, t ≤ x → x < lv → v.num x ≠ i) → o i = 0
  e : ∀ x, t ≤ x → x < lv → ln (v.num x) ≤ deep
  e2 : deep = 0 ∨ ∃ x, t ≤ x ∧ x < lv ∧ ln (v.num x) = deep
theorem TI.wt {N lv j : Nat} {cnt : Nat → Nat} {v : HC} (t : TI N cnt lv j v) (hN : N ≤ 265) (hl : liv cnt N = lv) (hcb : ∀ i, i < N → cnt i ≤ 1048576) (h0 : 0 < v.fill) : ∀ y, In v.heap v.fill y → v.wt y ≤ 300000000 := fun y hy => by
  have tf := t.f
  obtain ⟨r, r1, r2⟩ := itS_HI (U := 265) (c := cnt) (Nat.le_refl _) hN (show j + 1 ≤ liv cnt N by omega)
  obtain ⟨w1, _, w3, w4⟩ := t.rt.w y hy
  have h1 := r2.sw (v.num y) w3 (by have e : (itS N cnt j).w (v.num y) = v.wt y := w1; have e2 : 0 < v.wt y := w4; omega)
  have h2 : Huf.sm (fun i => if 0 < cnt i ∧ (itS N cnt j).grp i = v.num y then cnt i else 0) N ≤ Huf.sm (fun _ => 1048576) N := sm_le fun i hi => by
    have := hcb i hi
    split <;> omega
  have h3 : ∀ n, Huf.sm (fun _ => 1048576) n = 1048576 * n := fun n => by
    induction n with
    | zero => rfl
    | succ n ih => rw [Huf.sm, ih]; omega
  rw [h3] at h2
  have e : (itS N cnt j).w (v.num y) = v.wt y := w1
  omega
section di
variable {N lv r x deep : Nat} {cnt ln : Nat → Nat} {v : HC} {dp o : Nat → Nat} {s : HS} {L : Nat → Prop}
theorem DI.par (di : DI N lv r ln v dp o (x + 1) deep) (hx : x < r) (rt : RT N cnt s lv (r + 1) v.d L) (hL : ∀ y, L y ↔ y = r) : x < v.par x ∧ v.par x ≤ r ∧ dp (v.par x) ≤ r - v.par x := by
  have := rt.upw x (by omega) (fun e => by have := (hL x).1 e; omega)
  have h1 : x < v.par x := this.1
  have h2 : v.par x < r + 1 := this.2
  exact ⟨h1, by omega, di.b _ (by omega) (by omega)⟩
theorem DI.bas (di : DI N lv r ln v dp o (x + 1) deep) (hx : x < r) (rt : RT N cnt s lv (r + 1) v.d L) (hL : ∀ y, L y ↔ y = r) : ups dp x (dp (v.par x) + 1) r = 0 ∧ (∀ y, x ≤ y → y < r → ups dp x (dp (v.par x) + 1) y = ups dp x (dp (v.par x) + 1) (v.par y) + 1) ∧ ∀ y, x ≤ y → y ≤ r → ups dp x (dp (v.par x) + 1) y ≤ r - y := by
  obtain ⟨p1, p2, p3⟩ := di.par hx rt hL
  refine ⟨by rw [ups_ne _ _ (by omega)]; exact di.d0, fun y h1 h2 => ?_, fun y h1 h2 => ?_⟩
  · have hpy := rt.upw y (by omega) (fun e => by have := (hL y).1 e; omega)
    have hpy1 : y < v.par y := hpy.1
    rw [ups_ne _ _ (show v.par y ≠ x by omega)]
    by_cases e : y = x
    · rw [e, ups_eq]
    · rw [ups_ne _ _ e]; exact di.d y (by omega) h2
  · by_cases e : y = x
    · rw [e, ups_eq]; omega
    · rw [ups_ne _ _ e]; exact di.b y (by omega) h2
theorem DI.node (di : DI N lv r ln v dp o (x + 1) deep) (hx : x < r) (rt : RT N cnt s lv (r + 1) v.d L) (hL : ∀ y, L y ↔ y = r) (hl : lv ≤ x) : DI N lv r ln v (ups dp x (dp (v.par x) + 1)) o x deep := by
  obtain ⟨b1, b2, b3⟩ := di.bas hx rt hL
  refine ⟨b1, b2, b3, fun y h1 h2 => by omega, fun i hi h => di.o0 i hi (fun y h1 h2 => h y (by omega) h2), fun y h1 h2 => by omega, ?_⟩
  rcases di.e2 with q | ⟨y, y1, y2, y3⟩
  · exact .inl q
  · omega
theorem DI.is (di : DI N lv r ln v dp o (x + 1) deep) (hx : x < r) (rt : RT N cnt s lv (r + 1) v.d L) (hL : ∀ y, L y ↔ y = r) (hs : s.ln = ln) (hl : x < lv) : dp (v.par x) + 1 = ln (v.num x) := by
  obtain ⟨b1, b2, _⟩ := di.bas hx rt hL
  have := rt.dep hL hl b1 b2
  rw [ups_eq, hs] at this; exact this
theorem DI.leaf (di : DI N lv r ln v dp o (x + 1) deep) (hx : x < r) (rt : RT N cnt s lv (r + 1) v.d L) (hL : ∀ y, L y ↔ y = r) (hs : s.ln = ln) (hl : x < lv) {o' : Nat → Nat} {deep' : Nat} (ho : o' = ups o (v.num x) (dp (v.par x) + 1)) (hd : deep' = max deep (dp (v.par x) + 1)) : DI N lv r ln v (ups dp x (dp (v.par x) + 1)) o' x deep' := by
  obtain ⟨b1, b2, b3⟩ := di.bas hx rt hL
  have his := di.is hx rt hL hs hl
  refine ⟨b1, b2, b3, fun y h1 h2 => ?_, fun i hi h => ?_, fun y h1 h2 => ?_, .inr ?_⟩
  · rw [ho]
    by_cases e : v.num y = v.num x
    · rw [e, ups_eq]; exact his
    · rw [ups_ne _ _ e]; exact di.o1 y (by have : y ≠ x := fun q => e (by rw [q]); omega) h2
  · rw [ho, ups_ne _ _ (fun e => h x (Nat.le_refl _) hl e.symm)]
    exact di.o0 i hi (fun y h1 h2 => h y (by omega) h2)
  · by_cases e : y = x
    · rw [e]; omega
    · have := di.e y (by omega) h2; omega
  · rcases Nat.lt_or_ge deep (dp (v.par x) + 1) with q | q
    · exact ⟨x, Nat.le_refl _, hl, by omega⟩
    · rcases di.e2 with t | ⟨y, y1, y2, y3⟩
      · omega
      · exact ⟨y, by omega, y2, by omega⟩
end di
theorem DI.end {N lv r deep : Nat} {cnt : Nat → Nat} {v : HC} {dp o : Nat → Nat} {s : HS} {L : Nat → Prop} (di : DI N lv r (pln N cnt) v dp o 0 deep) (rt : RT N cnt s lv (r + 1) v.d L) (pl : PL N cnt (pln N cnt)) : (∀ i, i < N → o i = pln N cnt i) ∧ (∀ i, i < N → pln N cnt i ≤ deep) ∧ (deep = 0 ∨ ∃ i, i < N ∧ pln N cnt i = deep) := by
  refine ⟨fun i hi => ?_, fun i hi => ?_, ?_⟩
  · rcases Nat.eq_zero_or_pos (cnt i) with q | q
    · rw [di.o0 i hi (fun x _ h2 e => ?_), (pl.z i hi).2 q]
      have h3 : 0 < cnt (v.num x) := (rt.lf x h2).2
      rw [e] at h3; omega
    · obtain ⟨x, x1, x2⟩ := rt.lx i hi q
      have e : v.num x = i := x2
      rw [← e]; exact di.o1 x (Nat.zero_le _) x1
  · rcases Nat.eq_zero_or_pos (cnt i) with q | q
    · rw [(pl.z i hi).2 q]; omega
    · obtain ⟨x, x1, x2⟩ := rt.lx i hi q
      have e : v.num x = i := x2
      rw [← e]; exact di.e x (Nat.zero_le _) x1
  · rcases di.e2 with q | ⟨x, _, x2, x3⟩
    · exact .inl q
    · exact .inr ⟨_, (rt.lf x x2).1, x3⟩
theorem DI.z {N lv r : Nat} {ln : Nat → Nat} {v : HC} {dp : Nat → Nat} (hl : lv ≤ r) : DI N lv r ln v (ups dp r 0) (fun _ => 0) r 0 :=
  ⟨ups_eq _ _ _, fun y h1 h2 => by omega, fun y h1 h2 => by rw [show y = r by omega, ups_eq]; omega, fun x h1 h2 => by omega, fun _ _ _ => rfl, fun x h1 h2 => by omega, .inl rfl⟩
set_option maxHeartbeats 6400000 in
theorem tree_spec (h : Heap) (X : Nat) (u : HC) (c : CB h X u) (N : Nat) (cnt : Nat → Nat) (ab ao cap ob : Nat) (hN : N ≤ 265) (hIc : OL h (some ⟨ab, ao, none⟩) cap (il N cnt)) (hab : ¬ CT X ab) (hob : B h ob (ia N (fun _ => 0)) 3) (hox : ¬ CT X ob) (hao : ab ≠ ob) (hcb : ∀ i, i < N → cnt i ≤ 1048576) (h2 : 2 ≤ liv cnt N) :
    FC Tryz.prog 156 (#[.pointer (some ⟨X, 0, none⟩), .slice (some ⟨ab, ao, none⟩) N cap, .slice (some ⟨ob, 0, none⟩) N N] : Array Value) h fun rv h' => ∃ (deep : Nat) (o : Nat → Nat) (v : HC), rv = .int .i64 (deep : Int) ∧ CB h' X v ∧ KC u v ∧ v.fill ≤ 265 ∧ B h' ob (ia N o) 3 ∧ (∀ i, i < N → o i = pln N cnt i) ∧ (∀ i, i < N → pln N cnt i ≤ deep) ∧ (deep = 0 ∨ ∃ i, i < N ∧ pln N cnt i = deep) ∧ Ext (fun b => CT X b ∨ b = ob) h h' := by
  try clear q0 q1 q2 q3 q4 q5 q6 q7 q8 q9 q10 q11 q12 alens acode aroot asub awt aht anum apar adep aheap
  obtain ⟨q0, q1, q2, q3, q4, q5, q6, q7, q8, q9, q10, q11, q12⟩ := cq (c)
  obtain ⟨alens, acode, aroot, asub, awt, aht, anum, apar, adep, aheap⟩ := ca (c)
  have hcok := cok c
  have hlN : liv cnt N ≤ N := ct_le _ _
  have habl := hIc.lt rfl
  refine FC_of [(0, .pointer (some ⟨X, 0, none⟩)), (1, .slice (some ⟨ab, ao, none⟩) N cap), (2, .slice (some ⟨ob, 0, none⟩) N N)] Tryz.func156 rfl Tryz.ntmps156 (by simp) rfl (fun R hR => ?_)
  refine V_sr T.mix (by kernel_rfl) (fun K1 hK1 => ?_)
  refine S_as rfl ?_
  refine S_nil (hK1 _ _ (V_keep [0, 1, 2] (by simp only [proj, lk, reduceIte, Nat.reduceEqDiff]; rfl) ?_)); clear hK1
  refine V_sr T.mix (by kernel_rfl) (fun K2 hK2 => ?_)
  refine S_as rfl ?_
  refine S_nil (hK2 _ _ (V_keep [0, 1, 2, 7] (by simp only [proj, lk, reduceIte, Nat.reduceEqDiff]; rfl) ?_)); clear hK2
  refine V_sr T.mix (by kernel_rfl) (fun K3 hK3 => ?_)
  refine S_mv rfl ?_
  refine S_nc rfl ?_
  first | refine S_fa0 T.f70_12 rfl ?_ | refine S_fa T.f70_12 rfl ?_
  refine S_st T.sz3 rfl rfl rfl rfl (by simp (disch := omega) only [hcok]) ?_
  generalize hh : putH _ _ _ = h0
  have c0 : CB h0 X { u with fill := 0 } := by rw [← hh]; exact c.pfill 0
  have hE0 : Ext (CT X) h h0 := by rw [← hh]; exact CB.putx
  clear hh
  refine S_nil (hK3 _ _ (V_keep [0, 1, 2, 7] (by simp only [proj, lk, reduceIte, Nat.reduceEqDiff]; rfl) ?_)); clear hK3
  refine V_seq (fun K4 hK4 => ?_)
  refine V_sr T.mix (by kernel_rfl) (fun K5 hK5 => ?_)
  refine S_as rfl ?_
  refine S_nil (hK5 _ _ (V_keep [0, 1, 2, 7, 8] (by simp only [proj, lk, reduceIte, Nat.reduceEqDiff]; rfl) ?_)); clear hK5
  refine V_block ?_
  refine V_loop (fun m l h' => ∃ (s : Nat) (hk : Heap) (v : HC), (s ≤ N) ∧ (CB hk X v) ∧ (LI cnt s v) ∧ (KC u v) ∧ (Ext (CT X) h hk) ∧ m = N - s ∧ l = [(0, .pointer (some ⟨X, 0, none⟩)), (1, .slice (some ⟨ab, ao, none⟩) N cap), (2, .slice (some ⟨ob, 0, none⟩) N N), (7, .int .i64 (v.fill : Int)), (8, .int .i64 (s : Int))] ∧ hk = h') _ ⟨0, h0, { u with fill := 0 }, Nat.zero_le _, c0, LI.z rfl, KC.refl _, hE0, rfl, rfl, rfl⟩ ?_
  rintro m l h' ⟨s, hk, v, hs, ck, li, kc, hE, rfl, rfl, rfl⟩ K6 hK6
  try clear q0 q1 q2 q3 q4 q5 q6 q7 q8 q9 q10 q11 q12 alens acode aroot asub awt aht anum apar adep aheap
  obtain ⟨q0, q1, q2, q3, q4, q5, q6, q7, q8, q9, q10, q11, q12⟩ := cq (ck)
  obtain ⟨alens, acode, aroot, asub, awt, aht, anum, apar, adep, aheap⟩ := ca (ck)
  have hat := (hIc.ext hE (fun b e z => hab (by cases e; exact z))).nat
  have hle := li.le
  have howt := ck.owt
  refine V_seq (fun K7 hK7 => ?_)
  refine V_sr T.mix (by kernel_rfl) (fun K8 hK8 => ?_)
  refine S_mv rfl ?_
  refine S_mv rfl ?_
  refine S_lenl T.el56 rfl ?_
  refine S_bin rfl rfl rfl ?_
  refine S_nil (hK8 _ _ (V_keep [0, 1, 2, 7, 8, 20] (by simp only [proj, lk, reduceIte, Nat.reduceEqDiff]; rfl) ?_)); clear hK8
  refine V_condp rfl (fun c59 => ?_) (fun c59 => ?_)
  · skip
    refine V_skipk [0, 1, 2, 7, 8] (by simp only [proj, lk, reduceIte, Nat.reduceEqDiff]; rfl) ?_
    refine hK7 _ _ ?_; clear hK7
    refine V_seq (fun K9 hK9 => ?_)
    refine V_block ?_
    refine V_sr T.mix (by kernel_rfl) (fun K10 hK10 => ?_)
    refine S_mv rfl ?_
    refine S_mv rfl ?_
    first | refine S_ixn T.el56 rfl rfl (by omega) ?_ | refine S_ix1 T.el56 rfl rfl (by omega) (by omega) ?_ | refine S_ix T.el56 rfl rfl (by omega) (by omega) ?_
    refine S_ldK T.ag3 rfl (fun K' hK' => ?_)
    simp (disch := omega) only [q0, q1, q2, q3, q4, q5, q6, q7, q8, q9, q10, q11, q12, alens, acode, aroot, asub, awt, aht, anum, apar, adep, aheap, hat, Nat.mul_one, Int.toNat_natCast, oP_some, Nat.add_zero]
    refine hK' _ ?_; clear hK' K'
    refine S_bin rfl rfl rfl ?_
    refine S_nil (hK10 _ _ (V_keep [0, 1, 2, 7, 8, 27] (by simp only [proj, lk, reduceIte, Nat.reduceEqDiff]; rfl) ?_)); clear hK10
    refine V_condp rfl (fun c60 => ?_) (fun c60 => ?_)
    · skip
      refine V_sr T.mix (by kernel_rfl) (fun K11 hK11 => ?_)
      refine S_mv rfl ?_
      refine S_nc rfl ?_
      first | refine S_fa0 T.f70_6 rfl ?_ | refine S_fa T.f70_6 rfl ?_
      refine S_ldK T.ag56 rfl (fun K' hK' => ?_)
      simp (disch := omega) only [q0, q1, q2, q3, q4, q5, q6, q7, q8, q9, q10, q11, q12, alens, acode, aroot, asub, awt, aht, anum, apar, adep, aheap, hat, Nat.mul_one, Int.toNat_natCast, oP_some, Nat.add_zero]
      refine hK' _ ?_; clear hK' K'
      refine S_mv rfl ?_
      refine S_mv rfl ?_
      refine S_mv rfl ?_
      first | refine S_ixn T.el56 rfl rfl (by omega) ?_ | refine S_ix1 T.el56 rfl rfl (by omega) (by omega) ?_ | refine S_ix T.el56 rfl rfl (by omega) (by omega) ?_
      refine S_ldK T.ag3 rfl (fun K' hK' => ?_)
      simp (disch := omega) only [q0, q1, q2, q3, q4, q5, q6, q7, q8, q9, q10, q11, q12, alens, acode, aroot, asub, awt, aht, anum, apar, adep, aheap, hat, Nat.mul_one, Int.toNat_natCast, oP_some, Nat.add_zero]
      refine hK' _ ?_; clear hK' K'
      first | refine S_ixn T.el56 rfl rfl (by omega) ?_ | refine S_ix1 T.el56 rfl rfl (by omega) (by omega) ?_ | refine S_ix T.el56 rfl rfl (by omega) (by omega) ?_
      refine S_st T.sz3 rfl rfl rfl rfl (by simp (disch := omega) only [howt]) ?_
      generalize hh : putH _ _ _ = h1
      have c1 : CB h1 X { v with wt := ups v.wt v.fill (cnt s) } := by rw [← hh]; exact ck.pwt v.fill (cnt s)
      have hE1 : Ext (CT X) hk h1 := by rw [← hh]; exact CB.pute (by omega)
      clear hh
      try clear q0 q1 q2 q3 q4 q5 q6 q7 q8 q9 q10 q11 q12 alens acode aroot asub awt aht anum apar adep aheap
      obtain ⟨q0, q1, q2, q3, q4, q5, q6, q7, q8, q9, q10, q11, q12⟩ := cq (c1)
      obtain ⟨alens, acode, aroot, asub, awt, aht, anum, apar, adep, aheap⟩ := ca (c1)
      have hoht := c1.oht
      refine S_nil (hK11 _ _ (V_keep [0, 1, 2, 7, 8] (by simp only [proj, lk, reduceIte, Nat.reduceEqDiff]; rfl) ?_)); clear hK11
      refine V_sr T.mix (by kernel_rfl) (fun K12 hK12 => ?_)
      refine S_mv rfl ?_
      refine S_nc rfl ?_
      first | refine S_fa0 T.f70_7 rfl ?_ | refine S_fa T.f70_7 rfl ?_
      refine S_ldK T.ag56 rfl (fun K' hK' => ?_)
      simp (disch := omega) only [q0, q1, q2, q3, q4, q5, q6, q7, q8, q9, q10, q11, q12, alens, acode, aroot, asub, awt, aht, anum, apar, adep, aheap, hat, Nat.mul_one, Int.toNat_natCast, oP_some, Nat.add_zero]
      refine hK' _ ?_; clear hK' K'
      refine S_mv rfl ?_
      first | refine S_ixn T.el56 rfl rfl (by omega) ?_ | refine S_ix1 T.el56 rfl rfl (by omega) (by omega) ?_ | refine S_ix T.el56 rfl rfl (by omega) (by omega) ?_
      refine S_st T.sz3 rfl rfl rfl rfl (by simp (disch := omega) only [hoht]) ?_
      generalize hh : putH _ _ _ = h2
      have c2 : CB h2 X { v with wt := ups v.wt v.fill (cnt s), ht := ups v.ht v.fill 0 } := by rw [← hh]; exact c1.pht v.fill 0
      have hE2 : Ext (CT X) h1 h2 := by rw [← hh]; exact CB.pute (by omega)
      clear hh
      try clear q0 q1 q2 q3 q4 q5 q6 q7 q8 q9 q10 q11 q12 alens acode aroot asub awt aht anum apar adep aheap
      obtain ⟨q0, q1, q2, q3, q4, q5, q6, q7, q8, q9, q10, q11, q12⟩ := cq (c2)
      obtain ⟨alens, acode, aroot, asub, awt, aht, anum, apar, adep, aheap⟩ := ca (c2)
      have honum := c2.onum
      refine S_nil (hK12 _ _ (V_keep [0, 1, 2, 7, 8] (by simp only [proj, lk, reduceIte, Nat.reduceEqDiff]; rfl) ?_)); clear hK12
      refine V_sr T.mix (by kernel_rfl) (fun K13 hK13 => ?_)
      refine S_mv rfl ?_
      refine S_nc rfl ?_
      first | refine S_fa0 T.f70_8 rfl ?_ | refine S_fa T.f70_8 rfl ?_
      refine S_ldK T.ag56 rfl (fun K' hK' => ?_)
      simp (disch := omega) only [q0, q1, q2, q3, q4, q5, q6, q7, q8, q9, q10, q11, q12, alens, acode, aroot, asub, awt, aht, anum, apar, adep, aheap, hat, Nat.mul_one, Int.toNat_natCast, oP_some, Nat.add_zero]
      refine hK' _ ?_; clear hK' K'
      refine S_mv rfl ?_
      refine S_mv rfl ?_
      first | refine S_ixn T.el56 rfl rfl (by omega) ?_ | refine S_ix1 T.el56 rfl rfl (by omega) (by omega) ?_ | refine S_ix T.el56 rfl rfl (by omega) (by omega) ?_
      refine S_st T.sz3 rfl rfl rfl rfl (by simp (disch := omega) only [honum]) ?_
      generalize hh : putH _ _ _ = h3
      have c3 : CB h3 X (lfR v (cnt s) s) := by rw [← hh]; exact c2.pnum v.fill s
      have hE3 : Ext (CT X) h2 h3 := by rw [← hh]; exact CB.pute (by omega)
      clear hh
      refine S_nil (hK13 _ _ (V_keep [0, 1, 2, 7, 8] (by simp only [proj, lk, reduceIte, Nat.reduceEqDiff]; rfl) ?_)); clear hK13
      refine V_sr T.mix (by kernel_rfl) (fun K14 hK14 => ?_)
      refine S_mv rfl ?_
      refine S_mv rfl ?_
      refine S_call T.hb179 rfl ?_
      obtain ⟨pr1, pr2, pr3⟩ := li.pre (by omega) (cnt s)
      refine FC.mono (hpush_spec h3 X (lfR v (cnt s) s) c3 v.fill (by omega) (by show v.fill < 265; omega) pr1 pr2 li.inj pr3) ?_
      rintro v' h4 ⟨rfl, H', c4, hp4, hi4, hy4, hE4⟩
      refine S_nil (hK14 _ _ (V_keep [0, 1, 2, 7, 8] (by simp only [proj, lk, reduceIte, Nat.reduceEqDiff]; rfl) ?_)); clear hK14
      refine V_reg T.mix (by kernel_rfl) ?_
      refine S_mv rfl ?_
      refine S_addN (v.fill + 1) rfl rfl (by omega) (by omega) ?_
      refine S_as rfl ?_
      refine S_nilk [0, 1, 2, 7, 8] (by simp only [proj, lk, reduceIte, Nat.reduceEqDiff]; rfl) ?_
      refine hK9 _ _ ?_; clear hK9
      refine V_reg T.mix (by kernel_rfl) ?_
      refine S_mv rfl ?_
      refine S_addN (s + 1) rfl rfl (by omega) (by omega) ?_
      refine S_as rfl ?_
      refine S_nilk [0, 1, 2, 7, 8] (by simp only [proj, lk, reduceIte, Nat.reduceEqDiff]; rfl) ?_
      exact hK6 _ _ ⟨_, by omega, s + 1, h4, { lfR v (cnt s) s with heap := H', fill := v.fill + 1 }, by omega, c4, li.add (by omega) hp4 hi4 hy4, kc, (((hE.trans hE1).trans hE2).trans hE3).trans hE4, rfl, rfl, rfl⟩
    · skip
      refine V_skipk [0, 1, 2, 7, 8] (by simp only [proj, lk, reduceIte, Nat.reduceEqDiff]; rfl) ?_
      refine hK9 _ _ ?_; clear hK9
      refine V_reg T.mix (by kernel_rfl) ?_
      refine S_mv rfl ?_
      refine S_addN (s + 1) rfl rfl (by omega) (by omega) ?_
      refine S_as rfl ?_
      refine S_nilk [0, 1, 2, 7, 8] (by simp only [proj, lk, reduceIte, Nat.reduceEqDiff]; rfl) ?_
      exact hK6 _ _ ⟨_, by omega, s + 1, hk, v, by omega, ck, li.skip (by omega), kc, hE, rfl, rfl, rfl⟩
  · skip
    have hsN : s = N := by omega
    rw [hsN] at li
    obtain ⟨hl, ti0⟩ := li.ti
    generalize hlv : v.fill = lv at *
    refine V_exitk [0, 2, 7] rfl (by simp only [proj, lk, reduceIte, Nat.reduceEqDiff]; rfl) ?_
    refine hK4 _ _ ?_; clear hK4
    refine V_sr T.mix (by kernel_rfl) (fun K15 hK15 => ?_)
    refine S_mv rfl ?_
    refine S_as rfl ?_
    refine S_nil (hK15 _ _ (V_keep [0, 2, 7, 9] (by simp only [proj, lk, reduceIte, Nat.reduceEqDiff]; rfl) ?_)); clear hK15
    refine V_seq (fun K16 hK16 => ?_)
    refine V_block ?_
    refine V_loop (fun m l h' => ∃ (j : Nat) (hk : Heap) (v : HC), (CB hk X v) ∧ (TI N cnt lv j v) ∧ (j < lv) ∧ (KC u v) ∧ (Ext (CT X) h hk) ∧ m = lv - j ∧ l = [(0, .pointer (some ⟨X, 0, none⟩)), (2, .slice (some ⟨ob, 0, none⟩) N N), (7, .int .i64 ((lv + j : Nat) : Int)), (9, .int .i64 (lv : Int))] ∧ hk = h') _ ⟨0, hk, v, ck, ti0, by omega, kc, hE, rfl, rfl, rfl⟩ ?_
    rintro m l h' ⟨j, hk, v, ck, ti, hj, kc, hE, rfl, rfl, rfl⟩ K17 hK17
    try clear q0 q1 q2 q3 q4 q5 q6 q7 q8 q9 q10 q11 q12 alens acode aroot asub awt aht anum apar adep aheap
    obtain ⟨q0, q1, q2, q3, q4, q5, q6, q7, q8, q9, q10, q11, q12⟩ := cq (ck)
    obtain ⟨alens, acode, aroot, asub, awt, aht, anum, apar, adep, aheap⟩ := ca (ck)
    have tf := ti.f
    have hwt := ti.wt hN hl hcb (by omega)
    refine V_seq (fun K18 hK18 => ?_)
    refine V_sr T.mix (by kernel_rfl) (fun K19 hK19 => ?_)
    refine S_mv rfl ?_
    refine S_nc rfl ?_
    first | refine S_fa0 T.f70_12 rfl ?_ | refine S_fa T.f70_12 rfl ?_
    refine S_ldK T.ag3 rfl (fun K' hK' => ?_)
    simp (disch := omega) only [q0, q1, q2, q3, q4, q5, q6, q7, q8, q9, q10, q11, q12, alens, acode, aroot, asub, awt, aht, anum, apar, adep, aheap, hat, Nat.mul_one, Int.toNat_natCast, oP_some, Nat.add_zero]
    refine hK' _ ?_; clear hK' K'
    refine S_bin rfl rfl rfl ?_
    refine S_nil (hK19 _ _ (V_keep [0, 2, 7, 9, 61] (by simp only [proj, lk, reduceIte, Nat.reduceEqDiff]; rfl) ?_)); clear hK19
    refine V_condp rfl (fun c69 => ?_) (fun c69 => ?_)
    · skip
      refine V_skipk [0, 2, 7, 9] (by simp only [proj, lk, reduceIte, Nat.reduceEqDiff]; rfl) ?_
      refine hK18 _ _ ?_; clear hK18
      refine V_block ?_
      refine V_sr T.mix (by kernel_rfl) (fun K20 hK20 => ?_)
      refine S_mv rfl ?_
      refine S_call T.hb180 rfl ?_
      obtain ⟨f, hf⟩ : ∃ f, v.fill = f + 2 := ⟨v.fill - 2, by omega⟩
      have tf := ti.f
      have sm := ti.sm hN hl (by omega)
      have tp := ti.hp
      have tj := ti.inj
      rw [hf] at sm tp tj
      refine FC.mono (pop_spec hk X v ck (f + 1) (by omega) (by omega) sm tp tj) ?_
      rintro v' h1 ⟨rfl, H1, c1, p1, j1, i1, hE1⟩
      refine S_as rfl ?_
      refine S_nil (hK20 _ _ (V_keep [0, 2, 7, 9, 10] (by simp only [proj, lk, reduceIte, Nat.reduceEqDiff]; rfl) ?_)); clear hK20
      refine V_sr T.mix (by kernel_rfl) (fun K21 hK21 => ?_)
      refine S_mv rfl ?_
      refine S_call T.hb180 rfl ?_
      have sm1 : Sm { v with heap := H1, fill := f + 1 } (In H1 (f + 1)) := fun y hy => sm y ((i1 y).1 hy).1
      refine FC.mono (pop_spec h1 X { v with heap := H1, fill := f + 1 } c1 f rfl (by omega) sm1 p1 j1) ?_
      rintro v' h2 ⟨rfl, H2, c2, p2, j2, i2, hE2⟩
      have h12 := ti.two hN hl hf i1 p1
      have ha := h12.1
      have hb := h12.2.1
      have a1 := sm _ ha
      have b1 := sm _ hb
      have al : v.heap 0 < lv + j := ti.rt.lt _ (by rw [hf]; exact ha)
      have bl : H1 0 < lv + j := ti.rt.lt _ (by rw [hf]; exact hb)
      obtain ⟨pr1, pr2, pr3⟩ := ti.pre hN hl hf ha hb (fun y hy => ((i1 y).1 ((i2 y).1 hy).1).1) p2
      have wa : v.wt (v.heap 0) ≤ 300000000 := hwt _ (by rw [hf]; exact ha)
      have wb : v.wt (H1 0) ≤ 300000000 := hwt _ (by rw [hf]; exact hb)
      try clear q0 q1 q2 q3 q4 q5 q6 q7 q8 q9 q10 q11 q12 alens acode aroot asub awt aht anum apar adep aheap
      obtain ⟨q0, q1, q2, q3, q4, q5, q6, q7, q8, q9, q10, q11, q12⟩ := cq ((show CB h2 X { v with heap := H2, fill := f } from c2))
      obtain ⟨alens, acode, aroot, asub, awt, aht, anum, apar, adep, aheap⟩ := ca ((show CB h2 X { v with heap := H2, fill := f } from c2))
      have howt := c2.owt
      refine S_as rfl ?_
      refine S_nil (hK21 _ _ (V_keep [0, 2, 7, 9, 10, 11] (by simp only [proj, lk, reduceIte, Nat.reduceEqDiff]; rfl) ?_)); clear hK21
      refine V_sr T.mix (by kernel_rfl) (fun K22 hK22 => ?_)
      refine S_mv rfl ?_
      refine S_nc rfl ?_
      first | refine S_fa0 T.f70_6 rfl ?_ | refine S_fa T.f70_6 rfl ?_
      refine S_ldK T.ag56 rfl (fun K' hK' => ?_)
      simp (disch := omega) only [q0, q1, q2, q3, q4, q5, q6, q7, q8, q9, q10, q11, q12, alens, acode, aroot, asub, awt, aht, anum, apar, adep, aheap, hat, Nat.mul_one, Int.toNat_natCast, oP_some, Nat.add_zero]
      refine hK' _ ?_; clear hK' K'
      refine S_mv rfl ?_
      refine S_mv rfl ?_
      refine S_nc rfl ?_
      first | refine S_fa0 T.f70_6 rfl ?_ | refine S_fa T.f70_6 rfl ?_
      refine S_ldK T.ag56 rfl (fun K' hK' => ?_)
      simp (disch := omega) only [q0, q1, q2, q3, q4, q5, q6, q7, q8, q9, q10, q11, q12, alens, acode, aroot, asub, awt, aht, anum, apar, adep, aheap, hat, Nat.mul_one, Int.toNat_natCast, oP_some, Nat.add_zero]
      refine hK' _ ?_; clear hK' K'
      refine S_mv rfl ?_
      first | refine S_ixn T.el56 rfl rfl (by omega) ?_ | refine S_ix1 T.el56 rfl rfl (by omega) (by omega) ?_ | refine S_ix T.el56 rfl rfl (by omega) (by omega) ?_
      refine S_ldK T.ag3 rfl (fun K' hK' => ?_)
      simp (disch := omega) only [q0, q1, q2, q3, q4, q5, q6, q7, q8, q9, q10, q11, q12, alens, acode, aroot, asub, awt, aht, anum, apar, adep, aheap, hat, Nat.mul_one, Int.toNat_natCast, oP_some, Nat.add_zero]
      refine hK' _ ?_; clear hK' K'
      refine S_mv rfl ?_
      refine S_nc rfl ?_
      first | refine S_fa0 T.f70_6 rfl ?_ | refine S_fa T.f70_6 rfl ?_
      refine S_ldK T.ag56 rfl (fun K' hK' => ?_)
      simp (disch := omega) only [q0, q1, q2, q3, q4, q5, q6, q7, q8, q9, q10, q11, q12, alens, acode, aroot, asub, awt, aht, anum, apar, adep, aheap, hat, Nat.mul_one, Int.toNat_natCast, oP_some, Nat.add_zero]
      refine hK' _ ?_; clear hK' K'
      refine S_mv rfl ?_
      first | refine S_ixn T.el56 rfl rfl (by omega) ?_ | refine S_ix1 T.el56 rfl rfl (by omega) (by omega) ?_ | refine S_ix T.el56 rfl rfl (by omega) (by omega) ?_
      refine S_ldK T.ag3 rfl (fun K' hK' => ?_)
      simp (disch := omega) only [q0, q1, q2, q3, q4, q5, q6, q7, q8, q9, q10, q11, q12, alens, acode, aroot, asub, awt, aht, anum, apar, adep, aheap, hat, Nat.mul_one, Int.toNat_natCast, oP_some, Nat.add_zero]
      refine hK' _ ?_; clear hK' K'
      refine S_addN (v.wt (v.heap 0) + v.wt (H1 0)) rfl rfl (by omega) (by omega) ?_
      first | refine S_ixn T.el56 rfl rfl (by omega) ?_ | refine S_ix1 T.el56 rfl rfl (by omega) (by omega) ?_ | refine S_ix T.el56 rfl rfl (by omega) (by omega) ?_
      refine S_st T.sz3 rfl rfl rfl rfl (by simp (disch := omega) only [howt]) ?_
      generalize hh : putH _ _ _ = h3
      have c3 : CB h3 X { v with heap := H2, fill := f, wt := ups v.wt (lv + j) (v.wt (v.heap 0) + v.wt (H1 0)) } := by rw [← hh]; exact c2.pwt (lv + j) (v.wt (v.heap 0) + v.wt (H1 0))
      have hE3 : Ext (CT X) h2 h3 := by rw [← hh]; exact CB.pute (by omega)
      clear hh
      try clear q0 q1 q2 q3 q4 q5 q6 q7 q8 q9 q10 q11 q12 alens acode aroot asub awt aht anum apar adep aheap
      obtain ⟨q0, q1, q2, q3, q4, q5, q6, q7, q8, q9, q10, q11, q12⟩ := cq (c3)
      obtain ⟨alens, acode, aroot, asub, awt, aht, anum, apar, adep, aheap⟩ := ca (c3)
      have hoht := c3.oht
      refine S_nil (hK22 _ _ (V_keep [0, 2, 7, 9, 10, 11] (by simp only [proj, lk, reduceIte, Nat.reduceEqDiff]; rfl) ?_)); clear hK22
      refine V_sr T.mix (by kernel_rfl) (fun K23 hK23 => ?_)
      refine S_mv rfl ?_
      refine S_nc rfl ?_
      first | refine S_fa0 T.f70_7 rfl ?_ | refine S_fa T.f70_7 rfl ?_
      refine S_ldK T.ag56 rfl (fun K' hK' => ?_)
      simp (disch := omega) only [q0, q1, q2, q3, q4, q5, q6, q7, q8, q9, q10, q11, q12, alens, acode, aroot, asub, awt, aht, anum, apar, adep, aheap, hat, Nat.mul_one, Int.toNat_natCast, oP_some, Nat.add_zero]
      refine hK' _ ?_; clear hK' K'
      refine S_mv rfl ?_
      refine S_mv rfl ?_
      refine S_nc rfl ?_
      first | refine S_fa0 T.f70_7 rfl ?_ | refine S_fa T.f70_7 rfl ?_
      refine S_ldK T.ag56 rfl (fun K' hK' => ?_)
      simp (disch := omega) only [q0, q1, q2, q3, q4, q5, q6, q7, q8, q9, q10, q11, q12, alens, acode, aroot, asub, awt, aht, anum, apar, adep, aheap, hat, Nat.mul_one, Int.toNat_natCast, oP_some, Nat.add_zero]
      refine hK' _ ?_; clear hK' K'
      refine S_mv rfl ?_
      first | refine S_ixn T.el56 rfl rfl (by omega) ?_ | refine S_ix1 T.el56 rfl rfl (by omega) (by omega) ?_ | refine S_ix T.el56 rfl rfl (by omega) (by omega) ?_
      refine S_ldK T.ag3 rfl (fun K' hK' => ?_)
      simp (disch := omega) only [q0, q1, q2, q3, q4, q5, q6, q7, q8, q9, q10, q11, q12, alens, acode, aroot, asub, awt, aht, anum, apar, adep, aheap, hat, Nat.mul_one, Int.toNat_natCast, oP_some, Nat.add_zero]
      refine hK' _ ?_; clear hK' K'
      refine S_addN (v.ht (v.heap 0) + 1) rfl rfl (by omega) (by omega) ?_
      first | refine S_ixn T.el56 rfl rfl (by omega) ?_ | refine S_ix1 T.el56 rfl rfl (by omega) (by omega) ?_ | refine S_ix T.el56 rfl rfl (by omega) (by omega) ?_
      refine S_st T.sz3 rfl rfl rfl rfl (by simp (disch := omega) only [hoht]) ?_
      generalize hh : putH _ _ _ = h4
      have c4 : CB h4 X { v with heap := H2, fill := f, wt := ups v.wt (lv + j) (v.wt (v.heap 0) + v.wt (H1 0)), ht := ups v.ht (lv + j) (v.ht (v.heap 0) + 1) } := by rw [← hh]; exact c3.pht (lv + j) (v.ht (v.heap 0) + 1)
      have hE4 : Ext (CT X) h3 h4 := by rw [← hh]; exact CB.pute (by omega)
      clear hh
      try clear q0 q1 q2 q3 q4 q5 q6 q7 q8 q9 q10 q11 q12 alens acode aroot asub awt aht anum apar adep aheap
      obtain ⟨q0, q1, q2, q3, q4, q5, q6, q7, q8, q9, q10, q11, q12⟩ := cq (c4)
      obtain ⟨alens, acode, aroot, asub, awt, aht, anum, apar, adep, aheap⟩ := ca (c4)
      have hoht := c4.oht
      have hua : ups v.ht (lv + j) (v.ht (v.heap 0) + 1) (v.heap 0) = v.ht (v.heap 0) := ups_ne _ _ (by omega)
      have hub : ups v.ht (lv + j) (v.ht (v.heap 0) + 1) (H1 0) = v.ht (H1 0) := ups_ne _ _ (by omega)
      refine S_nil (hK23 _ _ (V_keep [0, 2, 7, 9, 10, 11] (by simp only [proj, lk, reduceIte, Nat.reduceEqDiff]; rfl) ?_)); clear hK23
      refine V_seqJ (fun l h' => ∃ (h6 : Heap) (hv : Nat), (CB h6 X { v with heap := H2, fill := f, wt := ups v.wt (lv + j) (v.wt (v.heap 0) + v.wt (H1 0)), ht := ups v.ht (lv + j) hv }) ∧ (hv = max (v.ht (v.heap 0)) (v.ht (H1 0)) + 1) ∧ (Ext (CT X) h3 h6) ∧ l = [(0, .pointer (some ⟨X, 0, none⟩)), (2, .slice (some ⟨ob, 0, none⟩) N N), (7, .int .i64 ((lv + j : Nat) : Int)), (9, .int .i64 (lv : Int)), (10, .int .i64 ((v.heap 0) : Int)), (11, .int .i64 ((H1 0) : Int))] ∧ h6 = h') ?_ ?_
      · skip
        refine V_sr T.mix (by kernel_rfl) (fun K25 hK25 => ?_)
        refine S_mv rfl ?_
        refine S_nc rfl ?_
        first | refine S_fa0 T.f70_7 rfl ?_ | refine S_fa T.f70_7 rfl ?_
        refine S_ldK T.ag56 rfl (fun K' hK' => ?_)
        simp (disch := omega) only [q0, q1, q2, q3, q4, q5, q6, q7, q8, q9, q10, q11, q12, alens, acode, aroot, asub, awt, aht, anum, apar, adep, aheap, hua, hub, oP_some, Nat.add_zero]
        refine hK' _ ?_; clear hK' K'
        refine S_mv rfl ?_
        first | refine S_ixn T.el56 rfl rfl (by omega) ?_ | refine S_ix1 T.el56 rfl rfl (by omega) (by omega) ?_ | refine S_ix T.el56 rfl rfl (by omega) (by omega) ?_
        refine S_ldK T.ag3 rfl (fun K' hK' => ?_)
        simp (disch := omega) only [q0, q1, q2, q3, q4, q5, q6, q7, q8, q9, q10, q11, q12, alens, acode, aroot, asub, awt, aht, anum, apar, adep, aheap, hua, hub, oP_some, Nat.add_zero]
        refine hK' _ ?_; clear hK' K'
        refine S_mv rfl ?_
        refine S_nc rfl ?_
        first | refine S_fa0 T.f70_7 rfl ?_ | refine S_fa T.f70_7 rfl ?_
        refine S_ldK T.ag56 rfl (fun K' hK' => ?_)
        simp (disch := omega) only [q0, q1, q2, q3, q4, q5, q6, q7, q8, q9, q10, q11, q12, alens, acode, aroot, asub, awt, aht, anum, apar, adep, aheap, hua, hub, oP_some, Nat.add_zero]
        refine hK' _ ?_; clear hK' K'
        refine S_mv rfl ?_
        first | refine S_ixn T.el56 rfl rfl (by omega) ?_ | refine S_ix1 T.el56 rfl rfl (by omega) (by omega) ?_ | refine S_ix T.el56 rfl rfl (by omega) (by omega) ?_
        refine S_ldK T.ag3 rfl (fun K' hK' => ?_)
        simp (disch := omega) only [q0, q1, q2, q3, q4, q5, q6, q7, q8, q9, q10, q11, q12, alens, acode, aroot, asub, awt, aht, anum, apar, adep, aheap, hua, hub, oP_some, Nat.add_zero]
        refine hK' _ ?_; clear hK' K'
        refine S_bin rfl rfl rfl ?_
        refine S_nil (hK25 _ _ (V_keep [0, 2, 7, 9, 10, 11, 115] (by simp only [proj, lk, reduceIte, Nat.reduceEqDiff]; rfl) ?_)); clear hK25
        refine V_condp rfl (fun c74 => ?_) (fun c74 => ?_)
        · skip
          refine V_reg T.mix (by kernel_rfl) ?_
          refine S_mv rfl ?_
          refine S_nc rfl ?_
          first | refine S_fa0 T.f70_7 rfl ?_ | refine S_fa T.f70_7 rfl ?_
          refine S_ldK T.ag56 rfl (fun K' hK' => ?_)
          simp (disch := omega) only [q0, q1, q2, q3, q4, q5, q6, q7, q8, q9, q10, q11, q12, alens, acode, aroot, asub, awt, aht, anum, apar, adep, aheap, hua, hub, oP_some, Nat.add_zero]
          refine hK' _ ?_; clear hK' K'
          refine S_mv rfl ?_
          refine S_mv rfl ?_
          refine S_nc rfl ?_
          first | refine S_fa0 T.f70_7 rfl ?_ | refine S_fa T.f70_7 rfl ?_
          refine S_ldK T.ag56 rfl (fun K' hK' => ?_)
          simp (disch := omega) only [q0, q1, q2, q3, q4, q5, q6, q7, q8, q9, q10, q11, q12, alens, acode, aroot, asub, awt, aht, anum, apar, adep, aheap, hua, hub, oP_some, Nat.add_zero]
          refine hK' _ ?_; clear hK' K'
          refine S_mv rfl ?_
          first | refine S_ixn T.el56 rfl rfl (by omega) ?_ | refine S_ix1 T.el56 rfl rfl (by omega) (by omega) ?_ | refine S_ix T.el56 rfl rfl (by omega) (by omega) ?_
          refine S_ldK T.ag3 rfl (fun K' hK' => ?_)
          simp (disch := omega) only [q0, q1, q2, q3, q4, q5, q6, q7, q8, q9, q10, q11, q12, alens, acode, aroot, asub, awt, aht, anum, apar, adep, aheap, hua, hub, oP_some, Nat.add_zero]
          refine hK' _ ?_; clear hK' K'
          refine S_addN (v.ht (H1 0) + 1) rfl rfl (by omega) (by omega) ?_
          first | refine S_ixn T.el56 rfl rfl (by omega) ?_ | refine S_ix1 T.el56 rfl rfl (by omega) (by omega) ?_ | refine S_ix T.el56 rfl rfl (by omega) (by omega) ?_
          refine S_st T.sz3 rfl rfl rfl rfl (by simp (disch := omega) only [hoht]) ?_
          have hmm : (v.heap 0) ≠ (lv + j) ∧ (H1 0) ≠ (lv + j) := ⟨by omega, by omega⟩
          generalize hh : putH _ _ _ = h5
          have c5 : CB h5 X { v with heap := H2, fill := f, wt := ups v.wt (lv + j) (v.wt (v.heap 0) + v.wt (H1 0)), ht := ups (ups v.ht (lv + j) (v.ht (v.heap 0) + 1)) (lv + j) (v.ht (H1 0) + 1) } := by rw [← hh]; exact (c4.pht (lv + j) (v.ht (H1 0) + 1))
          have hE5 : Ext (CT X) h4 h5 := by rw [← hh]; exact CB.pute (by omega)
          clear hh
          rw [ups_up] at c5
          refine S_nilk [0, 2, 7, 9, 10, 11] (by simp only [proj, lk, reduceIte, Nat.reduceEqDiff]; rfl) ?_
          exact ⟨h5, v.ht (H1 0) + 1, c5, by omega, hE4.trans hE5, rfl, rfl⟩
        · skip
          refine V_skipk [0, 2, 7, 9, 10, 11] (by simp only [proj, lk, reduceIte, Nat.reduceEqDiff]; rfl) ?_
          exact ⟨h4, v.ht (v.heap 0) + 1, c4, by omega, hE4, rfl, rfl⟩
      rintro l h' ⟨h6, hv, c6, hhv, hE6, rfl, rfl⟩
      try clear q0 q1 q2 q3 q4 q5 q6 q7 q8 q9 q10 q11 q12 alens acode aroot asub awt aht anum apar adep aheap
      obtain ⟨q0, q1, q2, q3, q4, q5, q6, q7, q8, q9, q10, q11, q12⟩ := cq (c6)
      obtain ⟨alens, acode, aroot, asub, awt, aht, anum, apar, adep, aheap⟩ := ca (c6)
      have honum := c6.onum
      refine V_sr T.mix (by kernel_rfl) (fun K26 hK26 => ?_)
      refine S_mv rfl ?_
      refine S_nc rfl ?_
      first | refine S_fa0 T.f70_8 rfl ?_ | refine S_fa T.f70_8 rfl ?_
      refine S_ldK T.ag56 rfl (fun K' hK' => ?_)
      simp (disch := omega) only [q0, q1, q2, q3, q4, q5, q6, q7, q8, q9, q10, q11, q12, alens, acode, aroot, asub, awt, aht, anum, apar, adep, aheap, hat, Nat.mul_one, Int.toNat_natCast, oP_some, Nat.add_zero]
      refine hK' _ ?_; clear hK' K'
      refine S_mv rfl ?_
      refine S_mv rfl ?_
      refine S_nc rfl ?_
      first | refine S_fa0 T.f70_8 rfl ?_ | refine S_fa T.f70_8 rfl ?_
      refine S_ldK T.ag56 rfl (fun K' hK' => ?_)
      simp (disch := omega) only [q0, q1, q2, q3, q4, q5, q6, q7, q8, q9, q10, q11, q12, alens, acode, aroot, asub, awt, aht, anum, apar, adep, aheap, hat, Nat.mul_one, Int.toNat_natCast, oP_some, Nat.add_zero]
      refine hK' _ ?_; clear hK' K'
      refine S_mv rfl ?_
      first | refine S_ixn T.el56 rfl rfl (by omega) ?_ | refine S_ix1 T.el56 rfl rfl (by omega) (by omega) ?_ | refine S_ix T.el56 rfl rfl (by omega) (by omega) ?_
      refine S_ldK T.ag3 rfl (fun K' hK' => ?_)
      simp (disch := omega) only [q0, q1, q2, q3, q4, q5, q6, q7, q8, q9, q10, q11, q12, alens, acode, aroot, asub, awt, aht, anum, apar, adep, aheap, hat, Nat.mul_one, Int.toNat_natCast, oP_some, Nat.add_zero]
      refine hK' _ ?_; clear hK' K'
      first | refine S_ixn T.el56 rfl rfl (by omega) ?_ | refine S_ix1 T.el56 rfl rfl (by omega) (by omega) ?_ | refine S_ix T.el56 rfl rfl (by omega) (by omega) ?_
      refine S_st T.sz3 rfl rfl rfl rfl (by simp (disch := omega) only [honum]) ?_
      generalize hh : putH _ _ _ = h7
      have c7 : CB h7 X { v with heap := H2, fill := f, wt := ups v.wt (lv + j) (v.wt (v.heap 0) + v.wt (H1 0)), ht := ups v.ht (lv + j) hv, num := ups v.num (lv + j) (v.num (v.heap 0)) } := by rw [← hh]; exact c6.pnum (lv + j) (v.num (v.heap 0))
      have hE7 : Ext (CT X) h6 h7 := by rw [← hh]; exact CB.pute (by omega)
      clear hh
      try clear q0 q1 q2 q3 q4 q5 q6 q7 q8 q9 q10 q11 q12 alens acode aroot asub awt aht anum apar adep aheap
      obtain ⟨q0, q1, q2, q3, q4, q5, q6, q7, q8, q9, q10, q11, q12⟩ := cq (c7)
      obtain ⟨alens, acode, aroot, asub, awt, aht, anum, apar, adep, aheap⟩ := ca (c7)
      have hopar := c7.opar
      refine S_nil (hK26 _ _ (V_keep [0, 2, 7, 9, 10, 11] (by simp only [proj, lk, reduceIte, Nat.reduceEqDiff]; rfl) ?_)); clear hK26
      refine V_sr T.mix (by kernel_rfl) (fun K27 hK27 => ?_)
      refine S_mv rfl ?_
      refine S_nc rfl ?_
      first | refine S_fa0 T.f70_9 rfl ?_ | refine S_fa T.f70_9 rfl ?_
      refine S_ldK T.ag56 rfl (fun K' hK' => ?_)
      simp (disch := omega) only [q0, q1, q2, q3, q4, q5, q6, q7, q8, q9, q10, q11, q12, alens, acode, aroot, asub, awt, aht, anum, apar, adep, aheap, hat, Nat.mul_one, Int.toNat_natCast, oP_some, Nat.add_zero]
      refine hK' _ ?_; clear hK' K'
      refine S_mv rfl ?_
      refine S_mv rfl ?_
      first | refine S_ixn T.el56 rfl rfl (by omega) ?_ | refine S_ix1 T.el56 rfl rfl (by omega) (by omega) ?_ | refine S_ix T.el56 rfl rfl (by omega) (by omega) ?_
      refine S_st T.sz3 rfl rfl rfl rfl (by simp (disch := omega) only [hopar]) ?_
      generalize hh : putH _ _ _ = h8
      have c8 : CB h8 X { v with heap := H2, fill := f, wt := ups v.wt (lv + j) (v.wt (v.heap 0) + v.wt (H1 0)), ht := ups v.ht (lv + j) hv, num := ups v.num (lv + j) (v.num (v.heap 0)) , par := ups v.par (v.heap 0) (lv + j) } := by rw [← hh]; exact c7.ppar (v.heap 0) (lv + j)
      have hE8 : Ext (CT X) h7 h8 := by rw [← hh]; exact CB.pute (by omega)
      clear hh
      try clear q0 q1 q2 q3 q4 q5 q6 q7 q8 q9 q10 q11 q12 alens acode aroot asub awt aht anum apar adep aheap
      obtain ⟨q0, q1, q2, q3, q4, q5, q6, q7, q8, q9, q10, q11, q12⟩ := cq (c8)
      obtain ⟨alens, acode, aroot, asub, awt, aht, anum, apar, adep, aheap⟩ := ca (c8)
      have hopar := c8.opar
      refine S_nil (hK27 _ _ (V_keep [0, 2, 7, 9, 11] (by simp only [proj, lk, reduceIte, Nat.reduceEqDiff]; rfl) ?_)); clear hK27
      refine V_sr T.mix (by kernel_rfl) (fun K28 hK28 => ?_)
      refine S_mv rfl ?_
      refine S_nc rfl ?_
      first | refine S_fa0 T.f70_9 rfl ?_ | refine S_fa T.f70_9 rfl ?_
      refine S_ldK T.ag56 rfl (fun K' hK' => ?_)
      simp (disch := omega) only [q0, q1, q2, q3, q4, q5, q6, q7, q8, q9, q10, q11, q12, alens, acode, aroot, asub, awt, aht, anum, apar, adep, aheap, hat, Nat.mul_one, Int.toNat_natCast, oP_some, Nat.add_zero]
      refine hK' _ ?_; clear hK' K'
      refine S_mv rfl ?_
      refine S_mv rfl ?_
      first | refine S_ixn T.el56 rfl rfl (by omega) ?_ | refine S_ix1 T.el56 rfl rfl (by omega) (by omega) ?_ | refine S_ix T.el56 rfl rfl (by omega) (by omega) ?_
      refine S_st T.sz3 rfl rfl rfl rfl (by simp (disch := omega) only [hopar]) ?_
      generalize hh : putH _ _ _ = h9
      have c9 : CB h9 X { v with heap := H2, fill := f, wt := ups v.wt (lv + j) (v.wt (v.heap 0) + v.wt (H1 0)), ht := ups v.ht (lv + j) hv, num := ups v.num (lv + j) (v.num (v.heap 0)), par := ups (ups v.par (v.heap 0) (lv + j)) (H1 0) (lv + j) } := by rw [← hh]; exact c8.ppar (H1 0) (lv + j)
      have hE9 : Ext (CT X) h8 h9 := by rw [← hh]; exact CB.pute (by omega)
      clear hh
      rw [hhv] at c9
      replace c9 : CB h9 X (jnR v (lv + j) (v.heap 0) (H1 0) H2 f) := c9
      refine S_nil (hK28 _ _ (V_keep [0, 2, 7, 9] (by simp only [proj, lk, reduceIte, Nat.reduceEqDiff]; rfl) ?_)); clear hK28
      refine V_sr T.mix (by kernel_rfl) (fun K29 hK29 => ?_)
      refine S_mv rfl ?_
      refine S_mv rfl ?_
      refine S_call T.hb179 rfl ?_
      refine FC.mono (hpush_spec h9 X (jnR v (lv + j) (v.heap 0) (H1 0) H2 f) c9 (lv + j) (by omega) (by show f < 265; omega) pr1 pr2 j2 pr3) ?_
      rintro v' h10 ⟨rfl, H3, c10, p3, j3, i3, hE10⟩
      refine S_nil (hK29 _ _ (V_keep [0, 2, 7, 9] (by simp only [proj, lk, reduceIte, Nat.reduceEqDiff]; rfl) ?_)); clear hK29
      refine V_reg T.mix (by kernel_rfl) ?_
      refine S_mv rfl ?_
      refine S_addN (lv + (j + 1)) rfl rfl (by omega) (by omega) ?_
      refine S_as rfl ?_
      refine S_nilk [0, 2, 7, 9] (by simp only [proj, lk, reduceIte, Nat.reduceEqDiff]; rfl) ?_
      exact hK17 _ _ ⟨_, by omega, j + 1, h10, _, c10, ti.post hf h12 i1 i2 i3 p3 j3, by omega, kc, ((((((((hE.trans hE1).trans hE2).trans hE3).trans hE6).trans hE7).trans hE8).trans hE9).trans hE10), rfl, rfl, rfl⟩
    · skip
      have hf1 : v.fill = 1 := by omega
      obtain ⟨r, hr1, hr2, htop⟩ := ti.top hf1
      have rt := ti.rt
      rw [hr1] at rt
      have hln : (itS N cnt j).ln = pln N cnt := by unfold pln; rw [hl, show lv - 1 = j by omega]
      have hodep := ck.odep
      refine V_exitk [0, 2, 7, 9] rfl (by simp only [proj, lk, reduceIte, Nat.reduceEqDiff]; rfl) ?_
      refine hK16 _ _ ?_; clear hK16
      refine V_sr T.mix (by kernel_rfl) (fun K30 hK30 => ?_)
      refine S_mv rfl ?_
      refine S_nc rfl ?_
      first | refine S_fa0 T.f70_10 rfl ?_ | refine S_fa T.f70_10 rfl ?_
      refine S_ldK T.ag56 rfl (fun K' hK' => ?_)
      simp (disch := omega) only [q0, q1, q2, q3, q4, q5, q6, q7, q8, q9, q10, q11, q12, alens, acode, aroot, asub, awt, aht, anum, apar, adep, aheap, hat, Nat.mul_one, Int.toNat_natCast, oP_some, Nat.add_zero]
      refine hK' _ ?_; clear hK' K'
      refine S_mv rfl ?_
      refine S_subN r rfl rfl (by omega) (by omega) ?_
      first | refine S_ixn T.el56 rfl rfl (by omega) ?_ | refine S_ix1 T.el56 rfl rfl (by omega) (by omega) ?_ | refine S_ix T.el56 rfl rfl (by omega) (by omega) ?_
      refine S_st T.sz3 rfl rfl rfl rfl (by simp (disch := omega) only [hodep]) ?_
      generalize hh : putH _ _ _ = h1
      have c1 : CB h1 X { v with dep := ups v.dep r 0 } := by rw [← hh]; exact ck.pdep r 0
      have hE1 : Ext (CT X) hk h1 := by rw [← hh]; exact CB.pute (by omega)
      clear hh
      refine S_nil (hK30 _ _ (V_keep [0, 2, 7, 9] (by simp only [proj, lk, reduceIte, Nat.reduceEqDiff]; rfl) ?_)); clear hK30
      refine V_sr T.mix (by kernel_rfl) (fun K31 hK31 => ?_)
      refine S_as rfl ?_
      refine S_nil (hK31 _ _ (V_keep [0, 2, 7, 9, 12] (by simp only [proj, lk, reduceIte, Nat.reduceEqDiff]; rfl) ?_)); clear hK31
      refine V_seq (fun K32 hK32 => ?_)
      refine V_sr T.mix (by kernel_rfl) (fun K33 hK33 => ?_)
      refine S_mv rfl ?_
      refine S_sub rfl rfl (by omega) (by omega) ?_
      rw [show ((lv + j : Nat) : Int) - 2 = (r : Int) - 1 by omega]
      refine S_as rfl ?_
      refine S_nil (hK33 _ _ (V_keep [0, 2, 9, 12, 13] (by simp only [proj, lk, reduceIte, Nat.reduceEqDiff]; rfl) ?_)); clear hK33
      refine V_block ?_
      refine V_loop (fun m l h' => ∃ (t : Nat) (hk : Heap) (dp o : Nat → Nat) (deep : Nat), (t ≤ r) ∧ (CB hk X { v with dep := dp }) ∧ (DI N lv r (pln N cnt) v dp o t deep) ∧ (B hk ob (ia N o) 3) ∧ (Ext (fun b => CT X b ∨ b = ob) h hk) ∧ m = t + 1 ∧ l = [(0, .pointer (some ⟨X, 0, none⟩)), (2, .slice (some ⟨ob, 0, none⟩) N N), (9, .int .i64 (lv : Int)), (12, .int .i64 (deep : Int)), (13, .int .i64 ((t : Int) - 1))] ∧ hk = h') _ ⟨r, h1, ups v.dep r 0, fun _ => 0, 0, Nat.le_refl _, c1, DI.z (by omega), hob.ext (hE.trans hE1) hox, (hE.trans hE1).mono fun _ e => .inl e, rfl, rfl, rfl⟩ ?_
      rintro m l h' ⟨t, hk, dp, o, deep, ht, cd_, di, hobk, hE3, rfl, rfl, rfl⟩ K34 hK34
      try clear q0 q1 q2 q3 q4 q5 q6 q7 q8 q9 q10 q11 q12 alens acode aroot asub awt aht anum apar adep aheap
      obtain ⟨q0, q1, q2, q3, q4, q5, q6, q7, q8, q9, q10, q11, q12⟩ := cq (cd_)
      obtain ⟨alens, acode, aroot, asub, awt, aht, anum, apar, adep, aheap⟩ := ca (cd_)
      refine V_seq (fun K35 hK35 => ?_)
      refine V_sr T.mix (by kernel_rfl) (fun K36 hK36 => ?_)
      refine S_mv rfl ?_
      refine S_bin rfl rfl rfl ?_
      refine S_nil (hK36 _ _ (V_keep [0, 2, 9, 12, 13, 172] (by simp only [proj, lk, reduceIte, Nat.reduceEqDiff]; rfl) ?_)); clear hK36
      refine V_condp rfl (fun c85 => ?_) (fun c85 => ?_)
      · skip
        obtain ⟨x, hx⟩ : ∃ x, t = x + 1 := ⟨t - 1, by omega⟩
        rw [show (t : Int) - 1 = (x : Int) by omega]
        obtain ⟨px1, px2, px3⟩ := (show DI N lv r (pln N cnt) v dp o (x + 1) deep by rw [← hx]; exact di).par (by omega) rt htop
        have hodep := cd_.odep
        refine V_skipk [0, 2, 9, 12, 13] (by simp only [proj, lk, reduceIte, Nat.reduceEqDiff]; rfl) ?_
        refine hK35 _ _ ?_; clear hK35
        refine V_seq (fun K37 hK37 => ?_)
        refine V_block ?_
        refine V_sr T.mix (by kernel_rfl) (fun K38 hK38 => ?_)
        refine S_mv rfl ?_
        refine S_nc rfl ?_
        first | refine S_fa0 T.f70_10 rfl ?_ | refine S_fa T.f70_10 rfl ?_
        refine S_ldK T.ag56 rfl (fun K' hK' => ?_)
        simp (disch := omega) only [q0, q1, q2, q3, q4, q5, q6, q7, q8, q9, q10, q11, q12, alens, acode, aroot, asub, awt, aht, anum, apar, adep, aheap, hat, Nat.mul_one, Int.toNat_natCast, oP_some, Nat.add_zero]
        refine hK' _ ?_; clear hK' K'
        refine S_mv rfl ?_
        refine S_mv rfl ?_
        refine S_nc rfl ?_
        first | refine S_fa0 T.f70_10 rfl ?_ | refine S_fa T.f70_10 rfl ?_
        refine S_ldK T.ag56 rfl (fun K' hK' => ?_)
        simp (disch := omega) only [q0, q1, q2, q3, q4, q5, q6, q7, q8, q9, q10, q11, q12, alens, acode, aroot, asub, awt, aht, anum, apar, adep, aheap, hat, Nat.mul_one, Int.toNat_natCast, oP_some, Nat.add_zero]
        refine hK' _ ?_; clear hK' K'
        refine S_mv rfl ?_
        refine S_nc rfl ?_
        first | refine S_fa0 T.f70_9 rfl ?_ | refine S_fa T.f70_9 rfl ?_
        refine S_ldK T.ag56 rfl (fun K' hK' => ?_)
        simp (disch := omega) only [q0, q1, q2, q3, q4, q5, q6, q7, q8, q9, q10, q11, q12, alens, acode, aroot, asub, awt, aht, anum, apar, adep, aheap, hat, Nat.mul_one, Int.toNat_natCast, oP_some, Nat.add_zero]
        refine hK' _ ?_; clear hK' K'
        refine S_mv rfl ?_
        first | refine S_ixn T.el56 rfl rfl (by omega) ?_ | refine S_ix1 T.el56 rfl rfl (by omega) (by omega) ?_ | refine S_ix T.el56 rfl rfl (by omega) (by omega) ?_
        refine S_ldK T.ag3 rfl (fun K' hK' => ?_)
        simp (disch := omega) only [q0, q1, q2, q3, q4, q5, q6, q7, q8, q9, q10, q11, q12, alens, acode, aroot, asub, awt, aht, anum, apar, adep, aheap, hat, Nat.mul_one, Int.toNat_natCast, oP_some, Nat.add_zero]
        refine hK' _ ?_; clear hK' K'
        first | refine S_ixn T.el56 rfl rfl (by omega) ?_ | refine S_ix1 T.el56 rfl rfl (by omega) (by omega) ?_ | refine S_ix T.el56 rfl rfl (by omega) (by omega) ?_
        refine S_ldK T.ag3 rfl (fun K' hK' => ?_)
        simp (disch := omega) only [q0, q1, q2, q3, q4, q5, q6, q7, q8, q9, q10, q11, q12, alens, acode, aroot, asub, awt, aht, anum, apar, adep, aheap, hat, Nat.mul_one, Int.toNat_natCast, oP_some, Nat.add_zero]
        refine hK' _ ?_; clear hK' K'
        refine S_addN (dp (v.par x) + 1) rfl rfl (by omega) (by omega) ?_
        first | refine S_ixn T.el56 rfl rfl (by omega) ?_ | refine S_ix1 T.el56 rfl rfl (by omega) (by omega) ?_ | refine S_ix T.el56 rfl rfl (by omega) (by omega) ?_
        refine S_st T.sz3 rfl rfl rfl rfl (by simp (disch := omega) only [hodep]) ?_
        generalize hh : putH _ _ _ = h1
        have c1 : CB h1 X { v with dep := ups dp x (dp (v.par x) + 1) } := by rw [← hh]; exact cd_.pdep x (dp (v.par x) + 1)
        have hE1 : Ext (CT X) hk h1 := by rw [← hh]; exact CB.pute (by omega)
        clear hh
        try clear q0 q1 q2 q3 q4 q5 q6 q7 q8 q9 q10 q11 q12 alens acode aroot asub awt aht anum apar adep aheap
        obtain ⟨q0, q1, q2, q3, q4, q5, q6, q7, q8, q9, q10, q11, q12⟩ := cq (c1)
        obtain ⟨alens, acode, aroot, asub, awt, aht, anum, apar, adep, aheap⟩ := ca (c1)
        have hob1 := hobk.ext hE1 hox
        have hoob := ia_ok hob1
        have hE31 := hE3.trans (hE1.mono fun _ e => .inl e)
        have hux : ups dp x (dp (v.par x) + 1) x = dp (v.par x) + 1 := ups_eq _ _ _
        refine S_nil (hK38 _ _ (V_keep [0, 2, 9, 12, 13] (by simp only [proj, lk, reduceIte, Nat.reduceEqDiff]; rfl) ?_)); clear hK38
        refine V_sr T.mix (by kernel_rfl) (fun K39 hK39 => ?_)
        refine S_mv rfl ?_
        refine S_mv rfl ?_
        refine S_bin rfl rfl rfl ?_
        refine S_nil (hK39 _ _ (V_keep [0, 2, 9, 12, 13, 197] (by simp only [proj, lk, reduceIte, Nat.reduceEqDiff]; rfl) ?_)); clear hK39
        refine V_condp rfl (fun c87 => ?_) (fun c87 => ?_)
        · skip
          have hnx : v.num x < N := (rt.lf x (by omega)).1
          refine V_sr T.mix (by kernel_rfl) (fun K40 hK40 => ?_)
          refine S_mv rfl ?_
          refine S_mv rfl ?_
          refine S_nc rfl ?_
          first | refine S_fa0 T.f70_8 rfl ?_ | refine S_fa T.f70_8 rfl ?_
          refine S_ldK T.ag56 rfl (fun K' hK' => ?_)
          simp (disch := omega) only [q0, q1, q2, q3, q4, q5, q6, q7, q8, q9, q10, q11, q12, alens, acode, aroot, asub, awt, aht, anum, apar, adep, aheap, hat, Nat.mul_one, Int.toNat_natCast, oP_some, Nat.add_zero]
          refine hK' _ ?_; clear hK' K'
          refine S_mv rfl ?_
          first | refine S_ixn T.el56 rfl rfl (by omega) ?_ | refine S_ix1 T.el56 rfl rfl (by omega) (by omega) ?_ | refine S_ix T.el56 rfl rfl (by omega) (by omega) ?_
          refine S_ldK T.ag3 rfl (fun K' hK' => ?_)
          simp (disch := omega) only [q0, q1, q2, q3, q4, q5, q6, q7, q8, q9, q10, q11, q12, alens, acode, aroot, asub, awt, aht, anum, apar, adep, aheap, hat, Nat.mul_one, Int.toNat_natCast, oP_some, Nat.add_zero]
          refine hK' _ ?_; clear hK' K'
          refine S_mv rfl ?_
          refine S_nc rfl ?_
          first | refine S_fa0 T.f70_10 rfl ?_ | refine S_fa T.f70_10 rfl ?_
          refine S_ldK T.ag56 rfl (fun K' hK' => ?_)
          simp (disch := omega) only [q0, q1, q2, q3, q4, q5, q6, q7, q8, q9, q10, q11, q12, alens, acode, aroot, asub, awt, aht, anum, apar, adep, aheap, hat, Nat.mul_one, Int.toNat_natCast, oP_some, Nat.add_zero]
          refine hK' _ ?_; clear hK' K'
          refine S_mv rfl ?_
          first | refine S_ixn T.el56 rfl rfl (by omega) ?_ | refine S_ix1 T.el56 rfl rfl (by omega) (by omega) ?_ | refine S_ix T.el56 rfl rfl (by omega) (by omega) ?_
          refine S_ldK T.ag3 rfl (fun K' hK' => ?_)
          simp (disch := omega) only [q0, q1, q2, q3, q4, q5, q6, q7, q8, q9, q10, q11, q12, alens, acode, aroot, asub, awt, aht, anum, apar, adep, aheap, hat, Nat.mul_one, Int.toNat_natCast, oP_some, Nat.add_zero]
          refine hK' _ ?_; clear hK' K'
          first | refine S_ixn T.el56 rfl rfl (by omega) ?_ | refine S_ix1 T.el56 rfl rfl (by omega) (by omega) ?_ | refine S_ix T.el56 rfl rfl (by omega) (by omega) ?_
          refine S_st T.sz3 rfl rfl rfl rfl (by simp (disch := omega) only [hoob]) ?_
          generalize hh : putH _ _ _ = h2
          have hob2 : B h2 ob (ia N (ups o (v.num x) (ups dp x (dp (v.par x) + 1) x))) 3 := by rw [← hh]; exact ia_put hob1 _ _
          have hE2 : Ext (fun b => b = ob) h1 h2 := by rw [← hh]; exact Ext.put _ _ rfl
          clear hh
          have c2 := c1.ext hE2 (fun b hb e => hox (by rw [← e]; exact hb))
          have hE32 := hE31.trans (hE2.mono fun _ e => .inr e)
          try clear q0 q1 q2 q3 q4 q5 q6 q7 q8 q9 q10 q11 q12 alens acode aroot asub awt aht anum apar adep aheap
          obtain ⟨q0, q1, q2, q3, q4, q5, q6, q7, q8, q9, q10, q11, q12⟩ := cq (c2)
          obtain ⟨alens, acode, aroot, asub, awt, aht, anum, apar, adep, aheap⟩ := ca (c2)
          refine S_nil (hK40 _ _ (V_keep [0, 2, 9, 12, 13] (by simp only [proj, lk, reduceIte, Nat.reduceEqDiff]; rfl) ?_)); clear hK40
          refine V_sr T.mix (by kernel_rfl) (fun K41 hK41 => ?_)
          refine S_mv rfl ?_
          refine S_nc rfl ?_
          first | refine S_fa0 T.f70_10 rfl ?_ | refine S_fa T.f70_10 rfl ?_
          refine S_ldK T.ag56 rfl (fun K' hK' => ?_)
          simp (disch := omega) only [q0, q1, q2, q3, q4, q5, q6, q7, q8, q9, q10, q11, q12, alens, acode, aroot, asub, awt, aht, anum, apar, adep, aheap, hat, Nat.mul_one, Int.toNat_natCast, oP_some, Nat.add_zero]
          refine hK' _ ?_; clear hK' K'
          refine S_mv rfl ?_
          first | refine S_ixn T.el56 rfl rfl (by omega) ?_ | refine S_ix1 T.el56 rfl rfl (by omega) (by omega) ?_ | refine S_ix T.el56 rfl rfl (by omega) (by omega) ?_
          refine S_ldK T.ag3 rfl (fun K' hK' => ?_)
          simp (disch := omega) only [q0, q1, q2, q3, q4, q5, q6, q7, q8, q9, q10, q11, q12, alens, acode, aroot, asub, awt, aht, anum, apar, adep, aheap, hat, Nat.mul_one, Int.toNat_natCast, oP_some, Nat.add_zero]
          refine hK' _ ?_; clear hK' K'
          refine S_mv rfl ?_
          refine S_bin rfl rfl rfl ?_
          refine S_nil (hK41 _ _ (V_keep [0, 2, 9, 12, 13, 222] (by simp only [proj, lk, reduceIte, Nat.reduceEqDiff]; rfl) ?_)); clear hK41
          refine V_condp rfl (fun c89 => ?_) (fun c89 => ?_)
          · skip
            refine V_reg T.mix (by kernel_rfl) ?_
            refine S_mv rfl ?_
            refine S_nc rfl ?_
            first | refine S_fa0 T.f70_10 rfl ?_ | refine S_fa T.f70_10 rfl ?_
            refine S_ldK T.ag56 rfl (fun K' hK' => ?_)
            simp (disch := omega) only [q0, q1, q2, q3, q4, q5, q6, q7, q8, q9, q10, q11, q12, alens, acode, aroot, asub, awt, aht, anum, apar, adep, aheap, hat, Nat.mul_one, Int.toNat_natCast, oP_some, Nat.add_zero]
            refine hK' _ ?_; clear hK' K'
            refine S_mv rfl ?_
            first | refine S_ixn T.el56 rfl rfl (by omega) ?_ | refine S_ix1 T.el56 rfl rfl (by omega) (by omega) ?_ | refine S_ix T.el56 rfl rfl (by omega) (by omega) ?_
            refine S_ldK T.ag3 rfl (fun K' hK' => ?_)
            simp (disch := omega) only [q0, q1, q2, q3, q4, q5, q6, q7, q8, q9, q10, q11, q12, alens, acode, aroot, asub, awt, aht, anum, apar, adep, aheap, hat, Nat.mul_one, Int.toNat_natCast, oP_some, Nat.add_zero]
            refine hK' _ ?_; clear hK' K'
            refine S_as rfl ?_
            refine S_nilk [0, 2, 9, 12, 13] (by simp only [proj, lk, reduceIte, Nat.reduceEqDiff]; rfl) ?_
            refine hK37 _ _ ?_; clear hK37
            refine V_reg T.mix (by kernel_rfl) ?_
            refine S_mv rfl ?_
            first | refine S_sub rfl rfl (by omega) (by omega) ?_ | refine S_bin rfl rfl rfl ?_
            refine S_as rfl ?_
            refine S_nilk [0, 2, 9, 12, 13] (by simp only [proj, lk, reduceIte, Nat.reduceEqDiff]; rfl) ?_
            exact hK34 _ _ ⟨_, by omega, x, h2, _, _, _, by omega, c2, by subst hx; exact di.leaf (by omega) rt htop hln (by omega) (by rw [ups_eq]) (by omega), hob2, hE32, rfl, rfl, rfl⟩
          · skip
            refine V_skipk [0, 2, 9, 12, 13] (by simp only [proj, lk, reduceIte, Nat.reduceEqDiff]; rfl) ?_
            refine hK37 _ _ ?_; clear hK37
            refine V_reg T.mix (by kernel_rfl) ?_
            refine S_mv rfl ?_
            first | refine S_sub rfl rfl (by omega) (by omega) ?_ | refine S_bin rfl rfl rfl ?_
            refine S_as rfl ?_
            refine S_nilk [0, 2, 9, 12, 13] (by simp only [proj, lk, reduceIte, Nat.reduceEqDiff]; rfl) ?_
            exact hK34 _ _ ⟨_, by omega, x, h2, _, _, _, by omega, c2, by subst hx; exact di.leaf (by omega) rt htop hln (by omega) (by rw [ups_eq]) (by omega), hob2, hE32, rfl, rfl, rfl⟩
        · skip
          refine V_skipk [0, 2, 9, 12, 13] (by simp only [proj, lk, reduceIte, Nat.reduceEqDiff]; rfl) ?_
          refine hK37 _ _ ?_; clear hK37
          refine V_reg T.mix (by kernel_rfl) ?_
          refine S_mv rfl ?_
          first | refine S_sub rfl rfl (by omega) (by omega) ?_ | refine S_bin rfl rfl rfl ?_
          refine S_as rfl ?_
          refine S_nilk [0, 2, 9, 12, 13] (by simp only [proj, lk, reduceIte, Nat.reduceEqDiff]; rfl) ?_
          exact hK34 _ _ ⟨_, by omega, x, h1, _, _, _, by omega, c1, by subst hx; exact di.node (by omega) rt htop (by omega), hob1, hE31, rfl, rfl, rfl⟩
      · skip
        have ht0 : t = 0 := by omega
        subst ht0
        obtain ⟨e1, e2, e3⟩ := di.end rt (pln_ok hN h2)
        refine V_exitk [12] rfl (by simp only [proj, lk, reduceIte, Nat.reduceEqDiff]; rfl) ?_
        refine hK32 _ _ ?_; clear hK32
        refine V_sr T.mix (by kernel_rfl) (fun K42 hK42 => ?_)
        refine S_mv rfl ?_
        refine S_as rfl ?_
        refine S_nil (hK42 _ _ (V_keep [6] (by simp only [proj, lk, reduceIte, Nat.reduceEqDiff]; rfl) ?_)); clear hK42
        refine V_ret ?_
        refine hR _ _ (ret1 rfl rfl ?_)
        exact ⟨deep, o, _, rfl, cd_, kc, by show v.fill ≤ 265; omega, hobk, e1, e2, e3, hE3⟩
end Go.Proofs.Qxb6500404aGreat.HufW
