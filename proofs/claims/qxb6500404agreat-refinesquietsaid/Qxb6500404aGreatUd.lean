import Derived.Test.Qxb6500404aGreatUc
import Derived.Test.Qxb6500404aGreatEn
set_option linter.unusedVariables false
set_option linter.unusedSimpArgs false
namespace Go.Proofs.Qxb6500404aGreat
open Go.Eng Go.Bits Go.Blk HufW Go.Arc

open Go.Lz (byt)
def TabAt (ft : Nat → Nat) (i : Nat) (r : RC) : Prop := ft (i * 5) = r.off ∧ ft (i * 5 + 1) = r.head ∧ ft (i * 5 + 2) = r.to ∧ ft (i * 5 + 3) = r.size ∧ ft (i * 5 + 4) = r.sum
def ft5 (ft : Nat → Nat) (i a b c d f : Nat) : Nat → Nat := Huf.ups (Huf.ups (Huf.ups (Huf.ups (Huf.ups ft (i * 5) a) (i * 5 + 1) b) (i * 5 + 1 + 1) c) (i * 5 + 1 + 1 + 1) d) (i * 5 + 1 + 1 + 1 + 1) f
theorem ft5_at (ft : Nat → Nat) (i a b c d f : Nat) {r : RC} (h1 : a = r.off) (h2 : b = r.head) (h3 : c = r.to) (h4 : d = r.size) (h5 : f = r.sum) : TabAt (ft5 ft i a b c d f) i r := by
  unfold TabAt ft5 Huf.ups
  refine ⟨?_, ?_, ?_, ?_, ?_⟩ <;> (repeat (first | rw [if_pos (by omega)] | rw [if_neg (by omega)])) <;> assumption
theorem ft5_ne (ft : Nat → Nat) (i a b c d f : Nat) {r : RC} {j : Nat} (hj : j ≠ i) (t : TabAt ft j r) : TabAt (ft5 ft i a b c d f) j r := by
  have key : ∀ k, k < 5 → ft5 ft i a b c d f (j * 5 + k) = ft (j * 5 + k) := fun k hk => by
    unfold ft5 Huf.ups
    rw [if_neg (by omega), if_neg (by omega), if_neg (by omega), if_neg (by omega), if_neg (by omega)]
  obtain ⟨t1, t2, t3, t4, t5⟩ := t
  exact ⟨by rw [show j * 5 = j * 5 + 0 from rfl, key 0 (by omega)]; exact t1, by rw [key 1 (by omega)]; exact t2, by rw [key 2 (by omega)]; exact t3, by rw [key 3 (by omega)]; exact t4, by rw [key 4 (by omega)]; exact t5⟩
theorem tab_puts {h : Heap} {b : Nat} {ft : Nat → Nat} {t : TypeId} (hb : B h b (ia 20 ft) t) (i a b' c d f : Nat) : B (putsH h b (i * 5) (s5 a b' c d f).toList) b (ia 20 (ft5 ft i a b' c d f)) t :=
  ia_put (ia_put (ia_put (ia_put (ia_put hb (i * 5) a) (i * 5 + 1) b') (i * 5 + 1 + 1) c) (i * 5 + 1 + 1 + 1) d) (i * 5 + 1 + 1 + 1 + 1) f
theorem cells5 {h : Heap} {b o : Nat} {v : Nat → Nat} (hc : ∀ j, j < 5 → cellH h ⟨b, o + j, none⟩ = some (.int .i64 (v j : Int))) : cellsH h ⟨b, o, none⟩ 0 5 = some (s5 (v 0) (v 1) (v 2) (v 3) (v 4)).toList := by
  have h0 := hc 0 (by omega)
  have h1 := hc 1 (by omega)
  have h2 := hc 2 (by omega)
  have h3 := hc 3 (by omega)
  have h4 := hc 4 (by omega)
  simp only [cellsH, add_mk, Nat.zero_add, Nat.reduceAdd, h0, h1, h2, h3, h4]
  rfl
theorem frE_step {raw : ByteArray} {dir n i : Nat} (hi : i < n) : frE raw dir (n - i) i = if (spE raw dir (dir + 2 * i)).1 ≠ 0 then spE raw dir (dir + 2 * i) else frE raw dir (n - (i + 1)) (i + 1) := by
  rw [show n - i = n - (i + 1) + 1 by omega]; rfl
def DS (h : Heap) (V : SA) (st : Nat) (out : List Int) : Prop := ∃ raw r s ua ub, SW h V r s ua ub ∧ RSt raw r out s ua ub st
theorem DS.ext {h h' : Heap} {V : SA} {st : Nat} {out : List Int} {S : Nat → Prop} (d : DS h V st out) (he : Ext S h h') (hS : ∀ z, WTs V z → ¬ S z) : DS h' V st out := by
  obtain ⟨raw, r, s, ua, ub, sw, q⟩ := d
  exact ⟨raw, r, s, ua, ub, sw.ext he hS, q⟩
theorem DS.new {h h' : Heap} {V : SA} {st : Nat} {out : List Int} (d : DS h V st out) (he : Ext (fun _ => False) h h') : DS h' V st out := d.ext he (fun _ _ f => f)
theorem DS.lt {h : Heap} {V : SA} {st : Nat} {out : List Int} (d : DS h V st out) {z : Nat} (e : WTs V z) : z < h.size := by
  obtain ⟨raw, r, s, ua, ub, sw, q⟩ := d
  exact sw.lt e
def DTA (V : SA) (A z : Nat) : Prop := WTs V z ∨ AT A z
theorem ext_app {raw : ByteArray} {a b c : Nat} (h1 : a ≤ b) (h2 : b ≤ c) (h3 : c ≤ raw.size) : raw.extract a b ++ raw.extract b c = raw.extract a c := by
  refine ByteArray.ext (Array.ext_getElem? fun j => ?_)
  have hd : raw.data.size = raw.size := rfl
  simp only [ByteArray.data_append, ByteArray.data_extract]
  by_cases c1 : j < b - a
  · rw [Array.getElem?_append_left (by simp; omega), Array.getElem?_extract_of_lt (by omega), Array.getElem?_extract_of_lt (by omega)]
  · rw [Array.getElem?_append_right (by simp; omega)]
    have e : (raw.data.extract a b).size = b - a := by simp; omega
    rw [e]
    by_cases c2 : j < c - a
    · rw [Array.getElem?_extract_of_lt (by omega), Array.getElem?_extract_of_lt (by omega)]
      simp only [show b + (j - (b - a)) = a + j by omega]
    · rw [Array.getElem?_eq_none (by rw [Array.size_extract]; omega), Array.getElem?_eq_none (by rw [Array.size_extract]; omega)]
theorem bz_app (a b : ByteArray) : bz (a ++ b) = bz a ++ bz b := by
  unfold bz
  apply List.ext_getElem?
  intro j
  rw [size_app]
  by_cases c1 : j < a.size
  · rw [List.getElem?_append_left (by rw [Lz.byt_len]; exact c1)]
    unfold byt
    rw [List.getElem?_map, List.getElem?_map, List.getElem?_range (by omega), List.getElem?_range c1]
    simp only [Option.map_some]; rw [bAt_l c1]
  · rw [List.getElem?_append_right (by rw [Lz.byt_len]; omega), Lz.byt_len]
    by_cases c2 : j < a.size + b.size
    · unfold byt
      rw [List.getElem?_map, List.getElem?_map, List.getElem?_range c2, List.getElem?_range (by omega)]
      simp only [Option.map_some]
      have := bAt_r (a := a) (b := b) (i := j - a.size)
      rw [show a.size + (j - a.size) = j by omega] at this
      rw [this]
    · rw [List.getElem?_eq_none (by rw [Lz.byt_len]; omega), List.getElem?_eq_none (by rw [Lz.byt_len]; omega)]
theorem mkS_app (a b : List Int) : mkS (a ++ b) = mkS a ++ mkS b := by
  refine ByteArray.ext ?_
  rw [ByteArray.data_append]
  unfold mkS
  simp
theorem st_go {raw ch : ByteArray} {l : Bool} {n : Nat} {out : List Int} (hz : raw.size + ch.size ≤ 512) : stpV raw ch 0 l n = #[.string (mkS ((ruF (raw ++ ch)).out.drop n)), .int .i64 ((stS (ruF (raw ++ ch)).e l : Nat) : Int), .int .i64 ((if stS (ruF (raw ++ ch)).e l = 2 then (ruF (raw ++ ch)).e else 0 : Nat) : Int), .int .i64 ((if stS (ruF (raw ++ ch)).e l = 2 then (ruF (raw ++ ch)).pl else 0 : Nat) : Int)] ∧ nxR raw ch 0 = raw ++ ch ∧ nxO raw ch 0 out = (ruF (raw ++ ch)).out ∧ nxT raw ch 0 l = stS (ruF (raw ++ ch)).e l := by
  refine ⟨?_, ?_, ?_, ?_⟩
  · unfold stpV; rw [if_neg (by omega), if_neg (by omega)]
  · unfold nxR; rw [if_pos ⟨rfl, hz⟩]
  · unfold nxO; rw [if_pos ⟨rfl, hz⟩]
  · unfold nxT; rw [if_neg (by omega), if_neg (by omega)]
theorem stS_fail {e : Nat} {l : Bool} (h : stS e l = 2) : e ≠ 0 ∧ (l = false → e ≠ 4) := by
  unfold stS at h
  by_cases c : e = 0 ∧ l = true
  · rw [if_pos c] at h; cases h
  · rw [if_neg c] at h
    by_cases d : l = false ∧ (e = 0 ∨ e = 4)
    · rw [if_pos d] at h; cases h
    · refine ⟨fun z => ?_, fun z w => d ⟨z, .inr w⟩⟩
      cases l
      · exact d ⟨rfl, .inl z⟩
      · exact c ⟨z, rfl⟩
theorem stS_true {e : Nat} (h : stS e true ≠ 2) : e = 0 ∧ stS e true = 1 := by
  unfold stS at h ⊢
  by_cases c : e = 0 ∧ true = true
  · rw [if_pos c]; exact ⟨c.1, rfl⟩
  · rw [if_neg c, if_neg (by simp)] at h; exact absurd rfl h
theorem stS_false {e : Nat} (h : stS e false ≠ 2) : stS e false = 0 := by
  unfold stS at h ⊢
  rw [if_neg (by simp)] at h ⊢
  by_cases d : false = false ∧ (e = 0 ∨ e = 4)
  · rw [if_pos d]
  · rw [if_neg d] at h; exact absurd rfl h
theorem mkS_drop0 {ot y : List Int} : (ot ++ y).drop ot.length = y := List.drop_left
theorem ups_pre {g : Nat → Int} {l : List Int} {x : Int} (p : Pre g l) {n : Nat} (e : n = l.length) : Pre (Huf.ups g n x) (l ++ [x]) := by rw [e]; exact p.snoc x
theorem zero_st {r : SR} {ua ub : HC} (h1 : r.ph = 0) (h2 : r.fi = 0) (h3 : r.at_ = 0) (h4 : r.hd = 0) (h5 : r.w = 0) (h6 : r.fl = 0) (h7 : r.n = 0) (h8 : r.tt = 0) (h9 : r.fed = 0) (hl : ∀ j, j < 273 → r.ls j ≤ 10) (hh : r.held = true → CK ua (Huf.cf (lA fixL)) ∧ ua.n = 265 ∧ CK ub (Huf.cf (lB fixL)) ∧ ub.n = 8) : RSt ⟨#[]⟩ r [] ⟨0, 0, 0⟩ ua ub 0 := by
  refine .inl ⟨rfl, 0, fun _ => 0, fun _ => 0, ⟨⟨h8, by rw [h5]; rfl, by rw [h6]; rfl, by rw [h7]; rfl, Nat.zero_le _, fun i hi => absurd hi (Nat.not_lt_zero _), fun j hj => by omega⟩, rfl, rfl, ⟨by simp, Nat.le_refl _, Nat.zero_le _⟩, Nat.zero_le _, h9, hl, by omega, by omega, by omega, hh, .inr (.inr rfl)⟩, ?_, fun z => by omega, fun z => by omega, fun z => by omega, fun z => by omega, fun z => by omega, fun z => by omega, .inr (.inr ⟨rfl, .inl ⟨h1, rfl⟩⟩), by omega⟩
  rw [rs0 h1]
  exact Gx.z rfl
theorem rset0 {r : SR} {s : TS} {ua ub : HC} {raw : ByteArray} {out : List Int} {st : Nat} (q : RSt raw r out s ua ub st) : RSt ⟨#[]⟩ (rse r) [] ⟨0, 0, 0⟩ ua ub 0 := by
  obtain ⟨n, w⟩ := q.w
  exact zero_st rfl rfl rfl rfl rfl rfl rfl rfl rfl w.l10 w.hl
def dnV (x : DO) : Array Value := if x.e = 0 then #[.int .i64 ((x.out.length : Nat) : Int), .int .i64 ((smF (mkS x.out) : Nat) : Int), .int .i64 0] else #[.int .i64 0, .int .i64 0, .int .i64 ((x.e : Nat) : Int)]
set_option maxHeartbeats 1600000 in
theorem frame_spec (h : Heap) (A K D : Nat) (t : List Int) (fo ft : Nat → Nat) (gn : Nat → Int) (ax : AX h A K D t fo ft gn) (raw : ByteArray) (hz : raw.size ≤ 1200) :
    FC Tryz.prog 63 (#[.pointer (some ⟨A, 0, none⟩), .string raw] : Array Value) h fun rv h' => rv = .tuple #[.int .i64 (((frF raw).1 : Nat) : Int), .int .i64 (((frF raw).2.1 : Nat) : Int), .int .i64 (((frF raw).2.2 : Nat) : Int)] ∧ (∃ ft', AX h' A K D t fo ft' gn ∧ ((frF raw).2.1 = 0 → ∀ i, i < cnt raw → TabAt ft' i (spR raw (cel raw i)))) ∧ Ext (AT A) h h' := by
  have hAl := ax.lt
  refine FC_of [(0, .pointer (some ⟨A, 0, none⟩)), (1, .string raw)] Tryz.func63 rfl Tryz.ntmps63 (by simp) rfl (fun R hR => ?_)
  refine V_sr T.mix (by kernel_rfl) (fun K1 hK1 => ?_)
  refine S_as rfl ?_
  refine S_as rfl ?_
  refine S_as rfl ?_
  refine S_nil (hK1 _ _ (V_keep [0, 1] (by simp only [proj, lk, reduceIte, Nat.reduceEqDiff]; rfl) ?_)); clear hK1
  refine V_sr T.mix (by kernel_rfl) (fun K2 hK2 => ?_)
  refine S_mv rfl ?_
  refine S_call T.hb78 rfl ?_
  obtain ⟨cn, ecn⟩ : ∃ x, x = (tlF raw).1 := ⟨_, rfl⟩
  obtain ⟨dr, edr⟩ : ∃ x, x = (tlF raw).2.1 := ⟨_, rfl⟩
  obtain ⟨te, ete⟩ : ∃ x, x = (tlF raw).2.2.1 := ⟨_, rfl⟩
  obtain ⟨tp, etp⟩ : ∃ x, x = (tlF raw).2.2.2 := ⟨_, rfl⟩
  have hts := atail_spec h raw hz
  rw [← ecn, ← edr, ← ete, ← etp] at hts
  refine FC.mono hts ?_
  rintro v' h' ⟨rfl, rfl⟩
  refine S_mv rfl ?_
  refine S_ex rfl rfl ?_
  refine S_ex rfl rfl ?_
  refine S_ex rfl rfl ?_
  refine S_ex rfl rfl ?_
  refine S_as rfl ?_
  refine S_as rfl ?_
  refine S_as rfl ?_
  refine S_as rfl ?_
  refine S_nil (hK2 _ _ (V_keep [0, 1, 7, 8, 9, 10] (by simp only [proj, lk, reduceIte, Nat.reduceEqDiff]; rfl) ?_)); clear hK2
  refine V_seq (fun K3 hK3 => ?_)
  refine V_sr T.mix (by kernel_rfl) (fun K4 hK4 => ?_)
  refine S_mv rfl ?_
  refine S_bin rfl rfl rfl ?_
  refine S_nil (hK4 _ _ (V_keep [0, 1, 7, 8, 9, 10, 23] (by simp only [proj, lk, reduceIte, Nat.reduceEqDiff]; rfl) ?_)); clear hK4
  refine V_condp rfl (fun c68 => ?_) (fun c68 => ?_)
  · skip
    refine V_sr T.mix (by kernel_rfl) (fun K5 hK5 => ?_)
    refine S_mv rfl ?_
    refine S_mv rfl ?_
    refine S_as rfl ?_
    refine S_as rfl ?_
    refine S_as rfl ?_
    refine S_nil (hK5 _ _ (V_keep [4, 5, 6] (by simp only [proj, lk, reduceIte, Nat.reduceEqDiff]; rfl) ?_)); clear hK5
    refine V_ret ?_
    refine hR _ _ (ret3 rfl rfl rfl rfl ?_)
    have hv : frF raw = (0, te, tp) := by unfold frF; rw [← ete, if_pos (by omega), ← etp]
    rw [hv]
    exact ⟨rfl, ⟨ft, ax, fun z => by simp only [] at z; omega⟩, Ext.refl _ _⟩
  · skip
    have te0 : te = 0 := by omega
    obtain ⟨t1_, t2_, t3_⟩ := tl_ok (raw := raw) (by rw [← ete]; exact te0)
    rw [← ecn] at t1_ t2_
    rw [← edr] at t2_
    refine V_skipk [0, 1, 7, 8] (by simp only [proj, lk, reduceIte, Nat.reduceEqDiff]; rfl) ?_
    refine hK3 _ _ ?_; clear hK3
    refine V_seq (fun K6 hK6 => ?_)
    refine V_sr T.mix (by kernel_rfl) (fun K7 hK7 => ?_)
    refine S_as rfl ?_
    refine S_nil (hK7 _ _ (V_keep [0, 1, 7, 8, 11] (by simp only [proj, lk, reduceIte, Nat.reduceEqDiff]; rfl) ?_)); clear hK7
    refine V_block ?_
    refine V_loop (fun m l h' => ∃ (i : Nat) (hk : Heap) (ftk : Nat → Nat), (i ≤ cn) ∧ (AX hk A K D t fo ftk gn) ∧ (∀ j, j < i → TabAt ftk j (spR raw (dr + 2 * j))) ∧ (frE raw dr cn 0 = frE raw dr (cn - i) i) ∧ (Ext (AT A) h hk) ∧ m = cn - i ∧ l = [(0, .pointer (some ⟨A, 0, none⟩)), (1, .string raw), (7, .int .i64 (cn : Int)), (8, .int .i64 (dr : Int)), (11, .int .i64 (i : Int))] ∧ hk = h') _ ⟨0, h, ft, Nat.zero_le _, ax, fun j hj => absurd hj (Nat.not_lt_zero _), rfl, Ext.refl _ _, rfl, rfl, rfl⟩ ?_
    rintro m l h' ⟨i, hk, ftk, hi, axk, htb, hfr, hEk, rfl, rfl, rfl⟩ K8 hK8
    refine V_seq (fun K9 hK9 => ?_)
    refine V_sr T.mix (by kernel_rfl) (fun K10 hK10 => ?_)
    refine S_mv rfl ?_
    refine S_mv rfl ?_
    refine S_bin rfl rfl rfl ?_
    refine S_nil (hK10 _ _ (V_keep [0, 1, 7, 8, 11, 28] (by simp only [proj, lk, reduceIte, Nat.reduceEqDiff]; rfl) ?_)); clear hK10
    refine V_condp rfl (fun c71 => ?_) (fun c71 => ?_)
    · skip
      refine V_skipk [0, 1, 7, 8, 11] (by simp only [proj, lk, reduceIte, Nat.reduceEqDiff]; rfl) ?_
      refine hK9 _ _ ?_; clear hK9
      refine V_seq (fun K11 hK11 => ?_)
      refine V_block ?_
      refine V_sr T.mix (by kernel_rfl) (fun K12 hK12 => ?_)
      refine S_mv rfl ?_
      refine S_mv rfl ?_
      refine S_mv rfl ?_
      refine S_mv rfl ?_
      refine S_mul rfl rfl (by omega) (by omega) ?_
      refine S_addN (dr + 2 * i) rfl rfl (by omega) (by omega) ?_
      refine S_call T.hb79 rfl ?_
      have hsp := spot_spec hk raw dr (dr + 2 * i) hz (by omega) (by omega)
      obtain ⟨se, ese⟩ : ∃ x, x = (spE raw dr (dr + 2 * i)).1 := ⟨_, rfl⟩
      obtain ⟨so, eso⟩ : ∃ x, x = (spE raw dr (dr + 2 * i)).2 := ⟨_, rfl⟩
      rw [← ese, ← eso] at hsp
      refine FC.mono hsp ?_
      rintro v' h1 ⟨c1, c2, c3, c4, c5, rfl, hcc, hE1⟩
      refine S_mv rfl ?_
      refine S_ex rfl rfl ?_
      refine S_ex rfl rfl ?_
      refine S_ex rfl rfl ?_
      refine S_allocA T.z128 ?_
      generalize hh : Array.push h1 _ = h2
      have b2 : B h2 h1.size (s5 (0) (0) (0) (0) (0)) 128 := by rw [← hh]; exact B.new _ _ _
      have hEh2 : Ext (fun _ => False) h1 h2 := by rw [← hh]; exact Ext.push _ _ _
      clear hh
      have lok : ∀ j, j < 5 → okPut h2 ⟨h1.size, j, none⟩ = true := fun j hj => b2.ok (by simpa [s5] using hj)
      refine S_stl T.sz128 rfl rfl rfl rfl (fun j hj => by simp (disch := omega) only [lok]) ?_
      generalize hh : putsH _ _ _ _ = h3
      have b3 : B h3 (h1.size) (s5 c1 c2 c3 c4 c5) 128 := by rw [← hh]; exact puts_all (b2) (cs' := (s5 c1 c2 c3 c4 c5)) rfl
      have hEh3 : Ext (fun k => k = h1.size) h2 h3 := by rw [← hh]; exact Ext.puts (S := fun k => k = h1.size) rfl _ _ _
      clear hh
      have hE13 : Ext (fun _ => False) h1 h3 := hEh2.step hEh3 (fun b hb e => by omega)
      have ax3 := (axk.new hE1).new hE13
      try clear x0 pr g
      obtain ⟨g, x0, pr⟩ := ax3.x
      try clear a0 a1 a2 a3 a4 a5 a6 ao ab aok pok ook tok gok
      obtain ⟨a0, a1, a2, a3, a4, a5, a6, ao, ab, aok, pok, ook, tok, gok⟩ := aq (x0)
      refine S_as rfl ?_
      refine S_as rfl ?_
      refine S_nil (hK12 _ _ (V_keep [0, 1, 7, 8, 11, 12, 13, 14] (by simp only [proj, lk, reduceIte, Nat.reduceEqDiff]; rfl) ?_)); clear hK12
      refine V_seq (fun K13 hK13 => ?_)
      refine V_sr T.mix (by kernel_rfl) (fun K14 hK14 => ?_)
      refine S_mv rfl ?_
      refine S_bin rfl rfl rfl ?_
      refine S_nil (hK14 _ _ (V_keep [0, 1, 7, 8, 11, 12, 13, 14, 43] (by simp only [proj, lk, reduceIte, Nat.reduceEqDiff]; rfl) ?_)); clear hK14
      refine V_condp rfl (fun c73 => ?_) (fun c73 => ?_)
      · skip
        refine V_sr T.mix (by kernel_rfl) (fun K15 hK15 => ?_)
        refine S_mv rfl ?_
        refine S_mv rfl ?_
        refine S_as rfl ?_
        refine S_as rfl ?_
        refine S_as rfl ?_
        refine S_nil (hK15 _ _ (V_keep [4, 5, 6] (by simp only [proj, lk, reduceIte, Nat.reduceEqDiff]; rfl) ?_)); clear hK15
        refine V_ret ?_
        refine hR _ _ (ret3 rfl rfl rfl rfl ?_)
        have hq : frE raw dr cn 0 = (se, so) := by rw [hfr, frE_step (by omega), if_pos (by rw [← ese]; omega), ese, eso]
        have hv : frF raw = (0, se, so) := by unfold frF; rw [← ete, if_neg (by omega), ← ecn, ← edr, hq, if_pos (by simp only []; omega)]
        rw [hv]
        exact ⟨rfl, ⟨ftk, ax3, fun z => by simp only [] at z; omega⟩, (hEk.step hE1 (fun z hz f => f.elim)).step hE13 (fun z hz f => f.elim)⟩
      · skip
        refine V_skipk [0, 1, 7, 8, 11, 12] (by simp only [proj, lk, reduceIte, Nat.reduceEqDiff]; rfl) ?_
        refine hK13 _ _ ?_; clear hK13
        refine V_reg T.mix (by kernel_rfl) ?_
        refine S_mv rfl ?_
        refine S_nc rfl ?_
        first | refine S_fa0 T.f59_5 rfl ?_ | refine S_fa T.f59_5 rfl ?_
        refine S_ldK T.ag57 rfl (fun K' hK' => ?_)
        simp (disch := omega) only [a0, a1, a2, a3, a4, a5, a6, ao, ab, oP_some, Nat.add_zero]
        refine hK' _ ?_; clear hK' K'
        refine S_mv rfl ?_
        refine S_ldn T.ag128 rfl (b3.all rfl) ?_
        refine S_ix T.el57 rfl rfl (by omega) (by omega) ?_
        rw [Nat.zero_add, Int.toNat_natCast]
        refine S_stl T.sz128 rfl rfl rfl rfl (fun j hj => by simp (disch := omega) only [aok, pok, ook, tok, gok]) ?_
        generalize hh : putsH _ _ _ _ = h4
        have ax4 : AX h4 A K D t fo (ft5 ftk i c1 c2 c3 c4 c5) gn := ⟨ax3.le, g, x0.tabx (by rw [← hh]; exact tab_puts x0.b i c1 c2 c3 c4 c5) (by rw [← hh]; exact Ext.puts (S := fun z => z = A + 3) rfl _ _ _), pr⟩
        have hEh4 : Ext (AT A) h3 h4 := by rw [← hh]; exact Ext.puts ⟨by omega, by omega⟩ _ _ _
        clear hh
        refine S_nilk [0, 1, 7, 8, 11] (by simp only [proj, lk, reduceIte, Nat.reduceEqDiff]; rfl) ?_
        refine hK11 _ _ ?_; clear hK11
        refine V_reg T.mix (by kernel_rfl) ?_
        refine S_mv rfl ?_
        refine S_addN (i + 1) rfl rfl (by omega) (by omega) ?_
        refine S_as rfl ?_
        refine S_nilk [0, 1, 7, 8, 11] (by simp only [proj, lk, reduceIte, Nat.reduceEqDiff]; rfl) ?_
        exact hK8 _ _ ⟨_, by omega, i + 1, h4, _, by omega, ax4, fun j hj => by by_cases e : j = i; (subst e; obtain ⟨k1, k2, k3, k4, k5⟩ := hcc (by omega); exact ft5_at _ _ _ _ _ _ _ k1 k2 k3 k4 k5); (exact ft5_ne _ _ _ _ _ _ _ e (htb j (by omega))), by rw [hfr, frE_step (by omega), if_neg (by rw [← ese]; omega)], ((hEk.step hE1 (fun z hz f => f.elim)).step hE13 (fun z hz f => f.elim)).trans hEh4, rfl, rfl, rfl⟩
    · skip
      refine V_exitk [7] rfl (by simp only [proj, lk, reduceIte, Nat.reduceEqDiff]; rfl) ?_
      refine hK6 _ _ ?_; clear hK6
      refine V_sr T.mix (by kernel_rfl) (fun K16 hK16 => ?_)
      refine S_mv rfl ?_
      refine S_as rfl ?_
      refine S_as rfl ?_
      refine S_as rfl ?_
      refine S_nil (hK16 _ _ (V_keep [4, 5, 6] (by simp only [proj, lk, reduceIte, Nat.reduceEqDiff]; rfl) ?_)); clear hK16
      refine V_ret ?_
      refine hR _ _ (ret3 rfl rfl rfl rfl ?_)
      have hq : frE raw dr cn 0 = (0, 0) := by rw [hfr, show cn - i = 0 by omega]; rfl
      have hv : frF raw = (cn, 0, 0) := by unfold frF; rw [← ete, if_neg (by omega), ← ecn, ← edr, hq, if_neg (by simp)]
      rw [hv]
      exact ⟨rfl, ⟨ftk, axk, fun _ i1 h1 => by unfold cnt at h1; unfold cel dirr; rw [← edr]; exact htb i1 (by omega)⟩, hEk⟩
set_option maxHeartbeats 6400000 in
theorem adrain_spec (h : Heap) (V : SA) (A K : Nat) (t : List Int) (fo ft : Nat → Nat) (gn : Nat → Int) (ax : AX h A K V.D t fo ft gn) (st0 : Nat) (out0 : List Int) (ds : DS h V st0 out0) (hV : ∀ z, WTs V z → z < A) (raw : ByteArray) (fr to : Nat) (hz : raw.size ≤ 1200) (h1t : fr ≤ to) (h2t : to ≤ raw.size) (h3t : to ≤ fr + 512) :
    FC Tryz.prog 65 (#[.pointer (some ⟨A, 0, none⟩), .string raw, .int .i64 (fr : Int), .int .i64 (to : Int)] : Array Value) h fun rv h' => rv = .tuple (dnV (ruF (raw.extract fr to))) ∧ (∃ st1 out1, DS h' V st1 out1 ∧ ((ruF (raw.extract fr to)).e = 0 → st1 = 1 ∧ out1 = (ruF (raw.extract fr to)).out)) ∧ (∃ gn', AX h' A K V.D t fo ft gn' ∧ ((ruF (raw.extract fr to)).e = 0 → Pre gn' (bz (mkS (ruF (raw.extract fr to)).out)))) ∧ Ext (DTA V A) h h' := by
  obtain ⟨g, x0, pr⟩ := ax.x
  obtain ⟨r0_, r_, s_, ua, ub, sw, q0⟩ := ds
  try clear a0 a1 a2 a3 a4 a5 a6 ao ab aok pok ook tok gok
  obtain ⟨a0, a1, a2, a3, a4, a5, a6, ao, ab, aok, pok, ook, tok, gok⟩ := aq (x0)
  refine FC_of [(0, .pointer (some ⟨A, 0, none⟩)), (1, .string raw), (2, .int .i64 (fr : Int)), (3, .int .i64 (to : Int))] Tryz.func65 rfl Tryz.ntmps65 (by simp) rfl (fun R hR => ?_)
  refine V_sr T.mix (by kernel_rfl) (fun K1 hK1 => ?_)
  refine S_as rfl ?_
  refine S_as rfl ?_
  refine S_as rfl ?_
  refine S_nil (hK1 _ _ (V_keep [0, 1, 2, 3] (by simp only [proj, lk, reduceIte, Nat.reduceEqDiff]; rfl) ?_)); clear hK1
  refine V_sr T.mix (by kernel_rfl) (fun K2 hK2 => ?_)
  refine S_mv rfl ?_
  refine S_nc rfl ?_
  first | refine S_fa0 T.f59_1 rfl ?_ | refine S_fa T.f59_1 rfl ?_
  refine S_ldK T.ag28 rfl (fun K' hK' => ?_)
  simp (disch := omega) only [a0, a1, a2, a3, a4, a5, a6, ao, ab, oP_some, Nat.add_zero]
  refine hK' _ ?_; clear hK' K'
  refine S_call T.hb81 rfl ?_
  refine FC.mono (sreset_spec h V r_ s_ ua ub sw) ?_
  rintro v' h0 ⟨rfl, sw0, hE0⟩
  have ax0 := ax.ext hE0 (fun z e y => by have h9 := hV z y; rw [at_def] at e; omega)
  refine S_nil (hK2 _ _ (V_keep [0, 1, 2, 3] (by simp only [proj, lk, reduceIte, Nat.reduceEqDiff]; rfl) ?_)); clear hK2
  refine V_sr T.mix (by kernel_rfl) (fun K3 hK3 => ?_)
  refine S_as rfl ?_
  refine S_nil (hK3 _ _ (V_keep [0, 1, 2, 3, 11] (by simp only [proj, lk, reduceIte, Nat.reduceEqDiff]; rfl) ?_)); clear hK3
  refine V_sr T.mix (by kernel_rfl) (fun K4 hK4 => ?_)
  refine S_as rfl ?_
  refine S_nil (hK4 _ _ (V_keep [0, 1, 2, 3, 11, 12] (by simp only [proj, lk, reduceIte, Nat.reduceEqDiff]; rfl) ?_)); clear hK4
  refine V_sr T.mix (by kernel_rfl) (fun K5 hK5 => ?_)
  refine S_as rfl ?_
  refine S_nil (hK5 _ _ (V_keep [0, 1, 2, 3, 11, 12, 13] (by simp only [proj, lk, reduceIte, Nat.reduceEqDiff]; rfl) ?_)); clear hK5
  refine V_sr T.mix (by kernel_rfl) (fun K6 hK6 => ?_)
  refine S_as rfl ?_
  refine S_nil (hK6 _ _ (V_keep [0, 1, 2, 3, 11, 12, 13, 14] (by simp only [proj, lk, reduceIte, Nat.reduceEqDiff]; rfl) ?_)); clear hK6
  refine V_seq (fun K7 hK7 => ?_)
  refine V_block ?_
  refine V_loop (fun m l h' => ∃ (q f n0 la0 lb0 : Nat) (ot : List Int) (hk : Heap) (gk : Nat → Int) (rk : SR) (sk : TS) (uak ubk : HC), (q ≤ 1) ∧ (fr ≤ f) ∧ (f ≤ to) ∧ (SW hk V rk sk uak ubk) ∧ (q = 1 → RSt (raw.extract fr f) rk ot sk uak ubk 0) ∧ (q = 0 → (ruF (raw.extract fr to)).e = 0 ∧ ot = (ruF (raw.extract fr to)).out ∧ RSt (raw.extract fr to) rk ot sk uak ubk 1) ∧ (n0 = ot.length) ∧ (ot.length ≤ 256) ∧ (smS (bz (mkS ot)) = (la0, lb0)) ∧ (la0 ≤ 250 ∧ lb0 ≤ 250) ∧ (AX hk A K V.D t fo ft gk) ∧ (Pre gk (bz (mkS ot))) ∧ (Ext (DTA V A) h hk) ∧ m = 2 * (to - f) + q ∧ l = [(0, .pointer (some ⟨A, 0, none⟩)), (1, .string raw), (2, .int .i64 (f : Int)), (3, .int .i64 (to : Int)), (11, .int .i64 (n0 : Int)), (12, .int .i64 (la0 : Int)), (13, .int .i64 (lb0 : Int)), (14, .bool (decide (q = 0)))] ∧ hk = h') _ ⟨1, fr, 0, 1, 0, [], h0, gn, rse r_, ⟨0, 0, 0⟩, ua, ub, Nat.le_refl _, Nat.le_refl _, h1t, sw0, fun _ => by have h9 : raw.extract fr fr = ⟨#[]⟩ := ByteArray.ext (by rw [ByteArray.data_extract]; simp; omega); rw [h9]; exact rset0 q0, fun z => absurd z (by decide), rfl, Nat.zero_le _, rfl, ⟨by decide, by decide⟩, ax0, fun j hj => absurd hj (Nat.not_lt_zero _), hE0.mono fun _ e => .inl e, rfl, rfl, rfl⟩ ?_
  rintro m l h' ⟨q, f, n0, la0, lb0, ot, hk, gk, rk, sk, uak, ubk, hq, hf1, hf2, swk, qk0, qk1, hn0, hol, hss, hle0, axk, prk, hEk, rfl, rfl, rfl⟩ K8 hK8
  try clear x0 pr g
  obtain ⟨g, x0, pr⟩ := axk.x
  try clear a0 a1 a2 a3 a4 a5 a6 ao ab aok pok ook tok gok
  obtain ⟨a0, a1, a2, a3, a4, a5, a6, ao, ab, aok, pok, ook, tok, gok⟩ := aq (x0)
  refine V_seq (fun K9 hK9 => ?_)
  refine V_sr T.mix (by kernel_rfl) (fun K10 hK10 => ?_)
  refine S_mv rfl ?_
  refine S_not rfl ?_
  refine S_nil (hK10 _ _ (V_keep [0, 1, 2, 3, 11, 12, 13, 14, 25] (by simp only [proj, lk, reduceIte, Nat.reduceEqDiff]; rfl) ?_)); clear hK10
  refine V_condp rfl (fun c15 => ?_) (fun c15 => ?_)
  · skip
    have hq1 : q = 1 := by by_cases z : q = 0; (simp [z] at c15); (omega)
    have qk := qk0 hq1
    refine V_skipk [0, 1, 2, 3, 11, 12, 13, 14] (by simp only [proj, lk, reduceIte, Nat.reduceEqDiff]; rfl) ?_
    refine hK9 _ _ ?_; clear hK9
    refine V_block ?_
    refine V_sr T.mix (by kernel_rfl) (fun K11 hK11 => ?_)
    refine S_mv rfl ?_
    refine S_addN (f + 64) rfl rfl (by omega) (by omega) ?_
    refine S_as rfl ?_
    refine S_nil (hK11 _ _ (V_keep [0, 1, 2, 3, 11, 12, 13, 14, 15] (by simp only [proj, lk, reduceIte, Nat.reduceEqDiff]; rfl) ?_)); clear hK11
    refine V_seqJ (fun l h' => ∃ (en p : Nat), ((p = 0 ∧ en = to ∧ to ≤ f + 64) ∨ (p = 1 ∧ en = f + 64 ∧ en < to)) ∧ l = [(0, .pointer (some ⟨A, 0, none⟩)), (1, .string raw), (2, .int .i64 (f : Int)), (3, .int .i64 (to : Int)), (11, .int .i64 (n0 : Int)), (12, .int .i64 (la0 : Int)), (13, .int .i64 (lb0 : Int)), (14, .bool (decide (p = 0))), (15, .int .i64 (en : Int))] ∧ hk = h') ?_ ?_
    · skip
      refine V_sr T.mix (by kernel_rfl) (fun K13 hK13 => ?_)
      refine S_mv rfl ?_
      refine S_mv rfl ?_
      refine S_bin rfl rfl rfl ?_
      refine S_nil (hK13 _ _ (V_keep [0, 1, 2, 3, 11, 12, 13, 14, 15, 30] (by simp only [proj, lk, reduceIte, Nat.reduceEqDiff]; rfl) ?_)); clear hK13
      refine V_condp rfl (fun c17 => ?_) (fun c17 => ?_)
      · skip
        refine V_sr T.mix (by kernel_rfl) (fun K14 hK14 => ?_)
        refine S_mv rfl ?_
        refine S_as rfl ?_
        refine S_nil (hK14 _ _ (V_keep [0, 1, 2, 3, 11, 12, 13, 15] (by simp only [proj, lk, reduceIte, Nat.reduceEqDiff]; rfl) ?_)); clear hK14
        refine V_reg T.mix (by kernel_rfl) ?_
        refine S_as rfl ?_
        refine S_nilk [0, 1, 2, 3, 11, 12, 13, 14, 15] (by simp only [proj, lk, reduceIte, Nat.reduceEqDiff]; rfl) ?_
        exact ⟨to, 0, .inl ⟨rfl, rfl, by omega⟩, rfl, rfl⟩
      · skip
        refine V_skipk [0, 1, 2, 3, 11, 12, 13, 14, 15] (by simp only [proj, lk, reduceIte, Nat.reduceEqDiff]; rfl) ?_
        exact ⟨f + 64, q, .inr ⟨hq1, rfl, by omega⟩, rfl, rfl⟩
    rintro l h' ⟨en, p, hen, rfl, rfl⟩
    refine V_srX #[0, 1, 2, 3, 4, 5, 6, 7, 8, 9, 10, 11] [0, 1, 2, 3, 4, 5, 6, 7, 8, 9, 10, 11] #[0, 1, 2, 3, 4, 5, 6, 7, 8, 10, 9, 11] [0, 1, 2, 3, 4, 5, 6, 7, 8, 10, 9, 11] 10 9 T.mix (by kernel_rfl) (fun K15 hK15 => ?_)
    suffices hJ15 : ∀ l h', (∃ (h3 : Heap) (sb : Nat) (r1 : SR) (s1_ : TS) (va vb : HC) (y : List Int) (sS sE sP : Nat), (B h3 sb #[.string (mkS y), .int .i64 ((sS : Nat) : Int), .int .i64 ((sE : Nat) : Int), .int .i64 ((sP : Nat) : Int)] 155) ∧ (AX h3 A K V.D t fo ft gk) ∧ (SW h3 V r1 s1_ va vb) ∧ (RSt (raw.extract fr en) r1 (ot ++ y) s1_ va vb sS) ∧ ((ruF (raw.extract fr en)).out = ot ++ y) ∧ (sS = stS (ruF (raw.extract fr en)).e (decide (p = 0))) ∧ (sE = (if sS = 2 then (ruF (raw.extract fr en)).e else 0)) ∧ (ot.length + y.length ≤ 256) ∧ (Ext (DTA V A) h h3) ∧ (hk.size ≤ sb) ∧ l = [(0, .pointer (some ⟨A, 0, none⟩)), (1, .string raw), (3, .int .i64 (to : Int)), (11, .int .i64 (n0 : Int)), (12, .int .i64 (la0 : Int)), (13, .int .i64 (lb0 : Int)), (14, .bool (decide (p = 0))), (15, .int .i64 (en : Int)), (16, .pointer (some ⟨sb, 0, none⟩))] ∧ h3 = h') → K15 l h' by
      refine ⟨?_, ?_⟩
      · skip
        refine S_mv rfl ?_
        refine S_nc rfl ?_
        first | refine S_fa0 T.f59_1 rfl ?_ | refine S_fa T.f59_1 rfl ?_
        refine S_ldK T.ag28 rfl (fun K' hK' => ?_)
        simp (disch := omega) only [a0, a1, a2, a3, a4, a5, a6, ao, ab, oP_some, Nat.add_zero]
        refine hK' _ ?_; clear hK' K'
        refine S_mv rfl ?_
        refine S_mv rfl ?_
        refine S_mv rfl ?_
        refine S_sl rfl rfl rfl (sliceV_str T.kd9 (by omega) (by omega) (by omega)) ?_
        rw [Int.toNat_natCast, Int.toNat_natCast]
        refine S_mv rfl ?_
        refine S_call T.hb82 rfl ?_
        have hsz : (raw.extract fr f).size + (raw.extract f en).size ≤ 512 := by rw [ByteArray.size_extract, ByteArray.size_extract]; omega
        have hap : raw.extract fr f ++ raw.extract f en = raw.extract fr en := ext_app (by omega) (by omega) (by omega)
        refine FC.mono (feed_spec hk V rk sk uak ubk swk (raw.extract fr f) ot 0 qk (raw.extract f en) (decide (p = 0))) ?_
        rintro v' h1 ⟨r1, s1_, va, vb, rfl, sw1, q1, ⟨y, hy⟩, _, hE1⟩
        obtain ⟨g1_, g2_, g3_, g4_⟩ := st_go (raw := raw.extract fr f) (ch := raw.extract f en) (l := decide (p = 0)) (n := ot.length) (out := ot) hsz
        rw [g1_]
        rw [g2_, g3_, g4_, hap] at q1
        rw [g3_, hap] at hy
        rw [hy] at q1
        rw [hap]
        rw [hy, mkS_drop0]
        obtain ⟨sS, eS⟩ : ∃ x, x = stS (ruF (raw.extract fr en)).e (decide (p = 0)) := ⟨_, rfl⟩
        rw [← eS] at q1 ⊢
        obtain ⟨sE, eE⟩ : ∃ x, x = (if sS = 2 then (ruF (raw.extract fr en)).e else 0) := ⟨_, rfl⟩
        rw [← eE]
        obtain ⟨sP, eP⟩ : ∃ x, x = (if sS = 2 then (ruF (raw.extract fr en)).pl else 0) := ⟨_, rfl⟩
        rw [← eP]
        have ax1 := axk.ext hE1 (fun z e y => by have h9 := hV z y; rw [at_def] at e; omega)
        obtain ⟨_, w9⟩ := q1.w
        have h256 := w9.si.le
        rw [List.length_append] at h256
        have hEk1 : Ext (DTA V A) h h1 := hEk.trans (hE1.mono fun _ e => .inl e)
        refine S_allocA T.z155 ?_
        generalize hh : Array.push h1 _ = h2
        have b2 : B h2 h1.size #[.string ⟨#[]⟩, .int .i64 0, .int .i64 0, .int .i64 0] 155 := by rw [← hh]; exact B.new _ _ _
        have hEh2 : Ext (fun _ => False) h1 h2 := by rw [← hh]; exact Ext.push _ _ _
        clear hh
        have sok : ∀ j, j < 4 → okPut h2 ⟨h1.size, j, none⟩ = true := fun j hj => b2.ok (by simpa using hj)
        refine S_stl T.sz155 rfl rfl rfl rfl (fun j hj => by simp (disch := omega) only [sok]) ?_
        generalize hh : putsH _ _ _ _ = h3
        have b3 : B h3 (h1.size) #[.string (mkS y), .int .i64 ((sS : Nat) : Int), .int .i64 ((sE : Nat) : Int), .int .i64 ((sP : Nat) : Int)] 155 := by rw [← hh]; exact puts_all (b2) (cs' := #[.string (mkS y), .int .i64 ((sS : Nat) : Int), .int .i64 ((sE : Nat) : Int), .int .i64 ((sP : Nat) : Int)]) rfl
        have hEh3 : Ext (fun k => k = h1.size) h2 h3 := by rw [← hh]; exact Ext.puts (S := fun k => k = h1.size) rfl _ _ _
        clear hh
        refine S_nilk [0, 1, 3, 11, 12, 13, 14, 15, 16] (by simp only [proj, lk, reduceIte, Nat.reduceEqDiff]; rfl) ?_
        have hEh3z := hE1.1
        have hA1 := axk.lt
        exact hJ15 _ _ ⟨h3, h1.size, r1, s1_, va, vb, y, sS, sE, sP, b3, (ax1.new hEh2).ext hEh3 (fun z e y => by rw [at_def] at e; omega), (sw1.new hEh2).ext hEh3 (fun z e y => by have h9 := swk.lt e; omega), q1, hy, eS, eE, h256, (hEk1.step hEh2 (fun z hz f => f.elim)).step hEh3 (fun z hz e => by have h9 := hEk1.1; omega), hEh3z, rfl, rfl⟩
      · skip
        refine S_mv rfl ?_
        refine S_nc rfl ?_
        first | refine S_fa0 T.f59_1 rfl ?_ | refine S_fa T.f59_1 rfl ?_
        refine S_ldK T.ag28 rfl (fun K' hK' => ?_)
        simp (disch := omega) only [a0, a1, a2, a3, a4, a5, a6, ao, ab, oP_some, Nat.add_zero]
        refine hK' _ ?_; clear hK' K'
        refine S_mv rfl ?_
        refine S_mv rfl ?_
        refine S_mv rfl ?_
        refine S_sl rfl rfl rfl (sliceV_str T.kd9 (by omega) (by omega) (by omega)) ?_
        rw [Int.toNat_natCast, Int.toNat_natCast]
        refine S_mv rfl ?_
        refine S_allocA T.z155 ?_
        generalize hh : Array.push hk _ = ha
        have b0_ : B ha hk.size #[.string ⟨#[]⟩, .int .i64 0, .int .i64 0, .int .i64 0] 155 := by rw [← hh]; exact B.new _ _ _
        have hEha : Ext (fun _ => False) hk ha := by rw [← hh]; exact Ext.push _ _ _
        clear hh
        have swa := swk.new hEha
        have axa := axk.new hEha
        have hEa : Ext (DTA V A) h ha := hEk.step hEha (fun z hz f => f.elim)
        have hszk := hEha.1
        try clear x0 pr g
        obtain ⟨g, x0, pr⟩ := axa.x
        try clear a0 a1 a2 a3 a4 a5 a6 ao ab aok pok ook tok gok
        obtain ⟨a0, a1, a2, a3, a4, a5, a6, ao, ab, aok, pok, ook, tok, gok⟩ := aq (x0)
        refine S_call T.hb82 rfl ?_
        have hsz : (raw.extract fr f).size + (raw.extract f en).size ≤ 512 := by rw [ByteArray.size_extract, ByteArray.size_extract]; omega
        have hap : raw.extract fr f ++ raw.extract f en = raw.extract fr en := ext_app (by omega) (by omega) (by omega)
        refine FC.mono (feed_spec ha V rk sk uak ubk swa (raw.extract fr f) ot 0 qk (raw.extract f en) (decide (p = 0))) ?_
        rintro v' h1 ⟨r1, s1_, va, vb, rfl, sw1, q1, ⟨y, hy⟩, _, hE1⟩
        obtain ⟨g1_, g2_, g3_, g4_⟩ := st_go (raw := raw.extract fr f) (ch := raw.extract f en) (l := decide (p = 0)) (n := ot.length) (out := ot) hsz
        rw [g1_]
        rw [g2_, g3_, g4_, hap] at q1
        rw [g3_, hap] at hy
        rw [hy] at q1
        rw [hap]
        rw [hy, mkS_drop0]
        obtain ⟨sS, eS⟩ : ∃ x, x = stS (ruF (raw.extract fr en)).e (decide (p = 0)) := ⟨_, rfl⟩
        rw [← eS] at q1 ⊢
        obtain ⟨sE, eE⟩ : ∃ x, x = (if sS = 2 then (ruF (raw.extract fr en)).e else 0) := ⟨_, rfl⟩
        rw [← eE]
        obtain ⟨sP, eP⟩ : ∃ x, x = (if sS = 2 then (ruF (raw.extract fr en)).pl else 0) := ⟨_, rfl⟩
        rw [← eP]
        have ax1 := axa.ext hE1 (fun z e y => by have h9 := hV z y; rw [at_def] at e; omega)
        obtain ⟨_, w9⟩ := q1.w
        have h256 := w9.si.le
        rw [List.length_append] at h256
        have hEk1 : Ext (DTA V A) h h1 := hEa.trans (hE1.mono fun _ e => .inl e)
        have b1 := b0_.ext hE1 (fun e => by have h9 := swk.lt e; omega)
        have sok : ∀ j, j < 4 → okPut h1 ⟨hk.size, j, none⟩ = true := fun j hj => b1.ok (by simpa using hj)
        refine S_stl T.sz155 rfl rfl rfl rfl (fun j hj => by simp (disch := omega) only [sok]) ?_
        generalize hh : putsH _ _ _ _ = h3
        have b3 : B h3 (hk.size) #[.string (mkS y), .int .i64 ((sS : Nat) : Int), .int .i64 ((sE : Nat) : Int), .int .i64 ((sP : Nat) : Int)] 155 := by rw [← hh]; exact puts_all (b1) (cs' := #[.string (mkS y), .int .i64 ((sS : Nat) : Int), .int .i64 ((sE : Nat) : Int), .int .i64 ((sP : Nat) : Int)]) rfl
        have hEh3 : Ext (fun k => k = hk.size) h1 h3 := by rw [← hh]; exact Ext.puts (S := fun k => k = hk.size) rfl _ _ _
        clear hh
        refine S_nilk [0, 1, 3, 11, 12, 13, 14, 15, 16] (by simp only [proj, lk, reduceIte, Nat.reduceEqDiff]; rfl) ?_
        have hA1 := axk.lt
        exact hJ15 _ _ ⟨h3, hk.size, r1, s1_, va, vb, y, sS, sE, sP, b3, ax1.ext hEh3 (fun z e y => by rw [at_def] at e; omega), sw1.ext hEh3 (fun z e y => by have h9 := swk.lt e; omega), q1, hy, eS, eE, h256, hEk1.step hEh3 (fun z hz e => by have h9 := hEk.1; omega), Nat.le_refl _, rfl, rfl⟩
    rintro l h' ⟨h3, sb, r1, s1_, va, vb, y, sS, sE, sP, b3, ax3, sw3, q1, hy, eS, eE, h256, hEk3, hsb, rfl, rfl⟩
    refine hK15 _ _ ?_; clear hK15
    have hA1 := axk.lt
    refine V_sr T.mix (by kernel_rfl) (fun K16 hK16 => ?_)
    refine S_mv rfl ?_
    refine S_as rfl ?_
    refine S_nil (hK16 _ _ (V_keep [0, 1, 2, 3, 11, 12, 13, 14, 16] (by simp only [proj, lk, reduceIte, Nat.reduceEqDiff]; rfl) ?_)); clear hK16
    refine V_seq (fun K17 hK17 => ?_)
    refine V_sr T.mix (by kernel_rfl) (fun K18 hK18 => ?_)
    refine S_as rfl ?_
    refine S_nil (hK18 _ _ (V_keep [0, 1, 2, 3, 11, 12, 13, 14, 16, 17] (by simp only [proj, lk, reduceIte, Nat.reduceEqDiff]; rfl) ?_)); clear hK18
    refine V_block ?_
    refine V_loop (fun m l h' => ∃ (j la lb : Nat) (hj_ : Heap) (gj : Nat → Int), (j ≤ y.length) ∧ (AX hj_ A K V.D t fo ft gj) ∧ (Pre gj (bz (mkS ot) ++ byt (mkS y) j)) ∧ (smS (bz (mkS ot) ++ byt (mkS y) j) = (la, lb)) ∧ (la ≤ 250 ∧ lb ≤ 250) ∧ (B hj_ sb #[.string (mkS y), .int .i64 ((sS : Nat) : Int), .int .i64 ((sE : Nat) : Int), .int .i64 ((sP : Nat) : Int)] 155) ∧ (SW hj_ V r1 s1_ va vb) ∧ (Ext (DTA V A) h hj_) ∧ m = y.length - j ∧ l = [(0, .pointer (some ⟨A, 0, none⟩)), (1, .string raw), (2, .int .i64 (en : Int)), (3, .int .i64 (to : Int)), (11, .int .i64 ((n0 + j) : Int)), (12, .int .i64 (la : Int)), (13, .int .i64 (lb : Int)), (14, .bool (decide (p = 0))), (16, .pointer (some ⟨sb, 0, none⟩)), (17, .int .i64 (j : Int))] ∧ hj_ = h') _ ⟨0, la0, lb0, h3, gk, Nat.zero_le _, ax3, by rw [show byt (mkS y) 0 = [] from rfl, List.append_nil]; exact prk, by rw [show byt (mkS y) 0 = [] from rfl, List.append_nil]; exact hss, hle0, b3, sw3, hEk3, rfl, rfl, rfl⟩ ?_
    rintro m l h' ⟨j, la, lb, hj_, gj, hjy, axj, prj, hsj, hlj, bj, swj, hEj, rfl, rfl, rfl⟩ K19 hK19
    try clear x0 pr g s0 s1 s2
    obtain ⟨g, x0, pr⟩ := axj.x
    try clear a0 a1 a2 a3 a4 a5 a6 ao ab aok pok ook tok gok
    obtain ⟨a0, a1, a2, a3, a4, a5, a6, ao, ab, aok, pok, ook, tok, gok⟩ := aq (x0)
    have s0 : cellH hj_ ⟨sb, 0, none⟩ = some (.string (mkS y)) := bj.cell 0
    have s1 : cellH hj_ ⟨sb, 1, none⟩ = some (.int .i64 ((sS : Nat) : Int)) := bj.cell 1
    have s2 : cellH hj_ ⟨sb, 2, none⟩ = some (.int .i64 ((sE : Nat) : Int)) := bj.cell 2
    have hmy := mkS_size y
    refine V_seq (fun K20 hK20 => ?_)
    refine V_sr T.mix (by kernel_rfl) (fun K21 hK21 => ?_)
    refine S_mv rfl ?_
    first | refine S_fa0 T.f155_0 rfl ?_ | refine S_fa T.f155_0 rfl ?_
    refine S_ldK T.ag9 rfl (fun K' hK' => ?_)
    simp (disch := omega) only [a0, a1, a2, a3, a4, a5, a6, ao, ab, s0, s1, s2, oP_some, Nat.add_zero]
    refine hK' _ ?_; clear hK' K'
    refine S_lens T.kd9 rfl ?_
    refine S_bin rfl rfl rfl ?_
    refine S_nil (hK21 _ _ (V_keep [0, 1, 2, 3, 11, 12, 13, 14, 16, 17, 47] (by simp only [proj, lk, reduceIte, Nat.reduceEqDiff]; rfl) ?_)); clear hK21
    refine V_condp rfl (fun c23 => ?_) (fun c23 => ?_)
    · skip
      refine V_skipk [0, 1, 2, 3, 11, 12, 13, 14, 16, 17] (by simp only [proj, lk, reduceIte, Nat.reduceEqDiff]; rfl) ?_
      refine hK20 _ _ ?_; clear hK20
      refine V_seq (fun K22 hK22 => ?_)
      refine V_block ?_
      refine V_sr T.mix (by kernel_rfl) (fun K23 hK23 => ?_)
      first | refine S_fa0 T.f155_0 rfl ?_ | refine S_fa T.f155_0 rfl ?_
      refine S_ldK T.ag9 rfl (fun K' hK' => ?_)
      simp (disch := omega) only [a0, a1, a2, a3, a4, a5, a6, ao, ab, s0, s1, s2, oP_some, Nat.add_zero]
      refine hK' _ ?_; clear hK' K'
      refine S_mv rfl ?_
      have hyj : j < y.length := by rw [← mkS_size]; omega
      refine S_si T.kd9 rfl rfl (by omega) (by omega) ?_
      rw [Int.toNat_natCast]
      have hb_ := bAt_lt (mkS y) j
      obtain ⟨b_, eb⟩ : ∃ x, x = bAt (mkS y) j := ⟨_, rfl⟩
      rw [← eb] at hb_ ⊢
      refine S_as rfl ?_
      refine S_nil (hK23 _ _ (V_keep [0, 1, 2, 3, 11, 12, 13, 14, 16, 17, 18] (by simp only [proj, lk, reduceIte, Nat.reduceEqDiff]; rfl) ?_)); clear hK23
      refine V_sr T.mix (by kernel_rfl) (fun K24 hK24 => ?_)
      refine S_mv rfl ?_
      refine S_nc rfl ?_
      first | refine S_fa0 T.f59_6 rfl ?_ | refine S_fa T.f59_6 rfl ?_
      refine S_ldK T.ag55 rfl (fun K' hK' => ?_)
      simp (disch := omega) only [a0, a1, a2, a3, a4, a5, a6, ao, ab, oP_some, Nat.add_zero]
      refine hK' _ ?_; clear hK' K'
      refine S_mv rfl ?_
      refine S_mv rfl ?_
      refine S_ixN (n0 + j) T.el55 rfl rfl rfl (by omega) ?_
      refine S_st T.sz5 rfl rfl rfl rfl (by simp (disch := omega) only [aok, pok, ook, tok, gok]) ?_
      generalize hh : putH _ _ _ = h5
      have ax5 : AX h5 A K V.D t fo ft (Huf.ups gj (n0 + j) ((b_ : Nat) : Int)) := by rw [← hh]; exact ⟨axj.le, g, x0.pg _ _, pr⟩
      have hEh5 : Ext (AT A) hj_ h5 := by rw [← hh]; exact Ext.put _ _ ⟨by omega, by omega⟩
      clear hh
      have bj5 := bj.ext hEh5 (fun e => by rw [at_def] at e; omega)
      have sw5 := swj.ext hEh5 (fun z e y => by have h9 := hV z e; rw [at_def] at y; omega)
      refine S_nil (hK24 _ _ (V_keep [0, 1, 2, 3, 11, 12, 13, 14, 16, 17, 18] (by simp only [proj, lk, reduceIte, Nat.reduceEqDiff]; rfl) ?_)); clear hK24
      refine V_sr T.mix (by kernel_rfl) (fun K25 hK25 => ?_)
      refine S_mv rfl ?_
      refine S_addN (n0 + (j + 1)) rfl rfl (by omega) (by omega) ?_
      refine S_as rfl ?_
      refine S_nil (hK25 _ _ (V_keep [0, 1, 2, 3, 11, 12, 13, 14, 16, 17, 18] (by simp only [proj, lk, reduceIte, Nat.reduceEqDiff]; rfl) ?_)); clear hK25
      refine V_sr T.mix (by kernel_rfl) (fun K26 hK26 => ?_)
      refine S_mv rfl ?_
      refine S_mv rfl ?_
      first | refine S_cvi T.us5 T.in3 rfl (by omega) (by omega) ?_ | refine S_cv T.us5 T.in3 rfl ?_
      refine S_addN (la + b_) rfl rfl (by omega) (by omega) ?_
      refine S_rem rfl rfl (by omega) (by omega) ?_
      rw [show ((la + b_ : Nat) : Int) % 251 = (((la + b_) % 251 : Nat) : Int) by omega]
      refine S_as rfl ?_
      refine S_nil (hK26 _ _ (V_keep [0, 1, 2, 3, 11, 12, 13, 14, 16, 17] (by simp only [proj, lk, reduceIte, Nat.reduceEqDiff]; rfl) ?_)); clear hK26
      refine V_reg T.mix (by kernel_rfl) ?_
      refine S_mv rfl ?_
      refine S_mv rfl ?_
      refine S_addN (lb + (la + b_) % 251) rfl rfl (by omega) (by omega) ?_
      refine S_rem rfl rfl (by omega) (by omega) ?_
      rw [show ((lb + (la + b_) % 251 : Nat) : Int) % 251 = (((lb + (la + b_) % 251) % 251 : Nat) : Int) by omega]
      refine S_as rfl ?_
      refine S_nilk [0, 1, 2, 3, 11, 12, 13, 14, 16, 17] (by simp only [proj, lk, reduceIte, Nat.reduceEqDiff]; rfl) ?_
      refine hK22 _ _ ?_; clear hK22
      refine V_reg T.mix (by kernel_rfl) ?_
      refine S_mv rfl ?_
      refine S_addN (j + 1) rfl rfl (by omega) (by omega) ?_
      refine S_as rfl ?_
      refine S_nilk [0, 1, 2, 3, 11, 12, 13, 14, 16, 17] (by simp only [proj, lk, reduceIte, Nat.reduceEqDiff]; rfl) ?_
      exact hK19 _ _ ⟨_, by omega, j + 1, (la + b_) % 251, (lb + (la + b_) % 251) % 251, h5, _, by omega, ax5, by rw [Lz.byt_succ, ← List.append_assoc, ← eb]; exact ups_pre prj (by rw [List.length_append, bz_len, mkS_size, Lz.byt_len, hn0]), by rw [Lz.byt_succ, ← List.append_assoc, smS_snoc, hsj, ← eb]; rfl, ⟨by omega, by omega⟩, bj5, sw5, hEj.trans (hEh5.mono fun _ e => .inr e), rfl, rfl, rfl⟩
    · skip
      refine V_exitk [0, 1, 2, 3, 11, 12, 13, 14, 16] rfl (by simp only [proj, lk, reduceIte, Nat.reduceEqDiff]; rfl) ?_
      refine hK17 _ _ ?_; clear hK17
      refine V_sr T.mix (by kernel_rfl) (fun K27 hK27 => ?_)
      first | refine S_fa0 T.f155_1 rfl ?_ | refine S_fa T.f155_1 rfl ?_
      refine S_ldK T.ag3 rfl (fun K' hK' => ?_)
      simp (disch := omega) only [a0, a1, a2, a3, a4, a5, a6, ao, ab, s0, s1, s2, oP_some, Nat.add_zero]
      refine hK' _ ?_; clear hK' K'
      refine S_bin rfl rfl rfl ?_
      refine S_nil (hK27 _ _ (V_keep [0, 1, 2, 3, 11, 12, 13, 14, 16, 74] (by simp only [proj, lk, reduceIte, Nat.reduceEqDiff]; rfl) ?_)); clear hK27
      refine V_condp rfl (fun c30 => ?_) (fun c30 => ?_)
      · skip
        have hS2 : sS = 2 := by omega
        obtain ⟨f1_, f2_⟩ := stS_fail (show stS (ruF (raw.extract fr en)).e (decide (p = 0)) = 2 by rw [← eS]; exact hS2)
        refine V_sr T.mix (by kernel_rfl) (fun K28 hK28 => ?_)
        first | refine S_fa0 T.f155_2 rfl ?_ | refine S_fa T.f155_2 rfl ?_
        refine S_ldK T.ag87 rfl (fun K' hK' => ?_)
        simp (disch := omega) only [a0, a1, a2, a3, a4, a5, a6, ao, ab, s0, s1, s2, oP_some, Nat.add_zero]
        refine hK' _ ?_; clear hK' K'
        refine S_as rfl ?_
        refine S_as rfl ?_
        refine S_as rfl ?_
        refine S_nil (hK28 _ _ (V_keep [8, 9, 10] (by simp only [proj, lk, reduceIte, Nat.reduceEqDiff]; rfl) ?_)); clear hK28
        refine V_ret ?_
        refine hR _ _ (ret3 rfl rfl rfl rfl ?_)
        have hee : (ruF (raw.extract fr to)).e = (ruF (raw.extract fr en)).e := by
          rcases hen with ⟨z1, z2, _⟩ | ⟨z1, z2, z3⟩
          · rw [z2]
          · rw [← ext_app (raw := raw) (a := fr) (b := en) (c := to) (by omega) (by omega) (by omega)]; exact ru_st (by rw [ByteArray.size_extract, ByteArray.size_extract]; omega) f1_ (f2_ (decide_eq_false (by omega)))
        have hne : (ruF (raw.extract fr to)).e ≠ 0 := by rw [hee]; exact f1_
        have hsE : sE = (ruF (raw.extract fr to)).e := by rw [eE, if_pos hS2, hee]
        exact ⟨by unfold dnV; rw [if_neg hne, hsE], ⟨_, _, ⟨_, r1, s1_, va, vb, swj, q1⟩, fun z => absurd z hne⟩, ⟨gj, axj, fun z => absurd z hne⟩, hEj⟩
      · skip
        have hS2 : sS ≠ 2 := by omega
        have hS0 : p = 1 → sS = 0 := fun z => by rw [show decide (p = 0) = false from decide_eq_false (by omega)] at eS; rw [eS] at hS2 ⊢; exact stS_false hS2
        have hS1 : p = 0 → (ruF (raw.extract fr en)).e = 0 ∧ en = to ∧ sS = 1 := fun z => by rw [show decide (p = 0) = true from decide_eq_true z] at eS; rw [eS] at hS2 ⊢; obtain ⟨k1, k2⟩ := stS_true hS2; exact ⟨k1, by omega, k2⟩
        have hbzz : bz (mkS (ot ++ y)) = bz (mkS ot) ++ byt (mkS y) j := by rw [mkS_app, bz_app, show j = (mkS y).size by omega]; rfl
        refine V_skipk [0, 1, 2, 3, 11, 12, 13, 14] (by simp only [proj, lk, reduceIte, Nat.reduceEqDiff]; rfl) ?_
        exact hK8 _ _ ⟨_, by omega, p, en, n0 + j, la, lb, ot ++ y, hj_, gj, r1, s1_, va, vb, by omega, by omega, by omega, swj, fun z => by have h9 := hS0 z; rw [h9] at q1; exact q1, fun z => by obtain ⟨k1, k2, k3⟩ := hS1 z; rw [k2] at q1 hy k1; rw [k3] at q1; exact ⟨k1, hy.symm, q1⟩, by rw [List.length_append]; omega, by rw [List.length_append]; omega, by rw [hbzz]; exact hsj, hlj, axj, by rw [hbzz]; exact prj, hEj, rfl, rfl, rfl⟩
  · skip
    have hq0 : q = 0 := by by_cases z : q = 0; (exact z); (simp [z] at c15)
    obtain ⟨k1_, k2_, k3_⟩ := qk1 hq0
    refine V_exitk [11, 12, 13] rfl (by simp only [proj, lk, reduceIte, Nat.reduceEqDiff]; rfl) ?_
    refine hK7 _ _ ?_; clear hK7
    refine V_sr T.mix (by kernel_rfl) (fun K29 hK29 => ?_)
    refine S_mv rfl ?_
    refine S_mv rfl ?_
    refine S_mul rfl rfl (by omega) (by omega) ?_
    refine S_mv rfl ?_
    refine S_addN (lb0 * 256 + la0) rfl rfl (by omega) (by omega) ?_
    refine S_as rfl ?_
    refine S_as rfl ?_
    refine S_as rfl ?_
    refine S_nil (hK29 _ _ (V_keep [8, 9, 10] (by simp only [proj, lk, reduceIte, Nat.reduceEqDiff]; rfl) ?_)); clear hK29
    refine V_ret ?_
    refine hR _ _ (ret3 rfl rfl rfl rfl ?_)
    have hsf : smF (mkS (ruF (raw.extract fr to)).out) = lb0 * 256 + la0 := by unfold smF smL; rw [← k2_, hss]
    exact ⟨by unfold dnV; rw [if_pos k1_, hsf, ← k2_, hn0], ⟨1, ot, ⟨_, rk, sk, uak, ubk, swk, k3_⟩, fun _ => ⟨rfl, k2_⟩⟩, ⟨gk, axk, fun _ => by rw [← k2_]; exact prk⟩, hEk⟩
end Go.Proofs.Qxb6500404aGreat
