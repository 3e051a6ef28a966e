import Derived.Test.Qxb6500404aGreatUf
set_option linter.unusedVariables false
set_option linter.unusedSimpArgs false
namespace Go.Proofs.Qxb6500404aGreat
open Go.Eng Go.Bits Go.Blk HufW Go.Arc

def r6 (a : ByteArray) (b c d e f : Nat) : Array Value := #[.string a, .int .i64 (b : Int), .int .i64 (c : Int), .int .i64 (d : Int), .int .i64 (e : Int), .int .i64 (f : Int)]
theorem r6q {h : Heap} {X b c d e f : Nat} {a : ByteArray} {t : TypeId} (hb : B h X (r6 a b c d e f) t) : cellH h ⟨X, 1, none⟩ = some (.int .i64 (b : Int)) ∧ cellH h ⟨X, 2, none⟩ = some (.int .i64 (c : Int)) ∧ cellH h ⟨X, 3, none⟩ = some (.int .i64 (d : Int)) ∧ cellH h ⟨X, 4, none⟩ = some (.int .i64 (e : Int)) ∧ ∀ j, j < 6 → okPut h ⟨X, j, none⟩ = true := ⟨hb.cell 1, hb.cell 2, hb.cell 3, hb.cell 4, fun j hj => hb.ok (by simpa [r6] using hj)⟩
theorem li_of {raw : ByteArray} {cn dr e p : Nat} (hz : ¬ 1200 < raw.size) (ht : tlF raw = (cn, dr, 0, 0)) (hf : frE raw dr cn 0 = (e, p)) : liE raw = (e, p) := by
  rw [li_fr hz]
  unfold frF
  rw [ht, if_neg (by simp)]
  simp only []
  rw [hf]
  by_cases c : e ≠ 0
  · rw [if_pos c]
  · rw [if_neg c]
    have h0 := frE_zero cn 0 (raw := raw) (dir := dr) (by rw [hf]; simp only []; omega)
    rw [hf] at h0
    exact h0.symm
theorem li_tl {raw : ByteArray} {a b e p : Nat} (hz : ¬ 1200 < raw.size) (ht : tlF raw = (a, b, e, p)) (he : e ≠ 0) : liE raw = (e, p) := by
  rw [li_fr hz]
  unfold frF
  rw [ht, if_pos he]
theorem sp_eq (raw : ByteArray) (cell : Nat) : (spR raw cell).head = (spR raw cell).off + 1 + bAt raw (spR raw cell).off ∧ (spR raw cell).to = (spR raw cell).head + 6 + w2 raw ((spR raw cell).head + 2) ∧ (spR raw cell).size = w2 raw (spR raw cell).head ∧ (spR raw cell).sum = w2 raw ((spR raw cell).head + 4) := ⟨rfl, rfl, rfl, rfl⟩

theorem puts_at {h : Heap} {b o : Nat} {cs : Array Value} {t : TypeId} {vs : List Value} (hb : B h b cs t) (ho : o + vs.length ≤ cs.size) : ∃ cs', B (putsH h b o vs) b cs' t ∧ cs'.size = cs.size ∧ (∀ j, j < vs.length → cs'[o + j]? = vs[j]?) ∧ ∀ j, j < o ∨ o + vs.length ≤ j → cs'[j]? = cs[j]? := by
  obtain ⟨c2, e2, e3, e4, e5, e6, e7⟩ := putsH_eq vs o h cs hb ho
  exact ⟨c2, e2, e3, e4, e5⟩

theorem RV.ext1 {h h' : Heap} {a : Option Addr} {raw : ByteArray} {n : Nat} {S : Nat → Prop} (v : RV h a raw n) (he : Ext S h h') (hs : ∀ z, blkA a = some z → ¬ S z) : RV h' a raw n := by
  rcases v with rfl | ⟨b, e, hl, hc⟩
  · exact .inl rfl
  · have h9 := he.2 b hl (hs b (by rw [e]; rfl))
    refine .inr ⟨b, e, by have := he.1; omega, fun i hi => ?_⟩
    rw [cell_same h9, cell_same h9, cell_same h9, cell_same h9, cell_same h9, cell_same h9]
    exact hc i hi
set_option maxHeartbeats 6400000 in
theorem mread_spec (h : Heap) (raw : ByteArray) :
    FC Tryz.prog 64 (#[.string raw] : Array Value) h fun rv h' => ∃ (a : Option Addr) (c n : Nat), n = (if (liE raw).1 = 0 then cnt raw else 0) ∧ rv = .tuple #[.slice a n c, .int .i64 (((liE raw).1 : Nat) : Int), .int .i64 (((liE raw).2 : Nat) : Int)] ∧ RV h' a raw n ∧ Ext (fun _ => False) h h' := by
  refine FC_of [(0, .string raw)] Tryz.func64 rfl Tryz.ntmps64 (by simp) rfl (fun R hR => ?_)
  refine V_sr T.mix (by kernel_rfl) (fun K1 hK1 => ?_)
  refine S_as rfl ?_
  refine S_as rfl ?_
  refine S_as rfl ?_
  refine S_nil (hK1 _ _ (V_keep [0] (by simp only [proj, lk, reduceIte, Nat.reduceEqDiff]; rfl) ?_)); clear hK1
  refine V_sr T.mix (by kernel_rfl) (fun K2 hK2 => ?_)
  refine S_mv rfl ?_
  refine S_lens T.kd9 rfl ?_
  refine S_as rfl ?_
  refine S_nil (hK2 _ _ (V_keep [0, 5] (by simp only [proj, lk, reduceIte, Nat.reduceEqDiff]; rfl) ?_)); clear hK2
  refine V_seq (fun K3 hK3 => ?_)
  refine V_sr T.mix (by kernel_rfl) (fun K4 hK4 => ?_)
  refine S_mv rfl ?_
  refine S_bin rfl rfl rfl ?_
  refine S_nil (hK4 _ _ (V_keep [0, 5, 18] (by simp only [proj, lk, reduceIte, Nat.reduceEqDiff]; rfl) ?_)); clear hK4
  refine V_condp rfl (fun c71 => ?_) (fun c71 => ?_)
  · skip
    refine V_sr T.mix (by kernel_rfl) (fun K5 hK5 => ?_)
    refine S_as rfl ?_
    refine S_as rfl ?_
    refine S_as rfl ?_
    refine S_nil (hK5 _ _ (V_keep [2, 3, 4] (by simp only [proj, lk, reduceIte, Nat.reduceEqDiff]; rfl) ?_)); clear hK5
    refine V_ret ?_
    refine hR _ _ (ret3 rfl rfl rfl rfl ?_)
    have hl : liE raw = (1, 0) := li_lg (by omega)
    rw [hl]
    exact ⟨none, 0, 0, by simp, rfl, .inl rfl, Ext.refl _ _⟩
  · skip
    have hz : raw.size ≤ 1200 := by omega
    refine V_skipk [0, 5] (by simp only [proj, lk, reduceIte, Nat.reduceEqDiff]; rfl) ?_
    refine hK3 _ _ ?_; clear hK3
    refine V_seq (fun K6 hK6 => ?_)
    refine V_sr T.mix (by kernel_rfl) (fun K7 hK7 => ?_)
    refine S_mv rfl ?_
    refine S_bin rfl rfl rfl ?_
    refine S_mv rfl ?_
    refine S_dec (fun g74 => ?_) (fun g74 => ?_)
    · skip
      refine S_gf rfl ?_
      refine S_gf rfl ?_
      refine S_gf rfl ?_
      refine S_gf rfl ?_
      refine S_gf rfl ?_
      refine S_pt rfl rfl ?_
      refine S_nil (hK7 _ _ (V_keep [0, 5, 27] (by simp only [proj, lk, reduceIte, Nat.reduceEqDiff]; rfl) ?_)); clear hK7
      refine V_condt rfl ?_
      refine V_sr T.mix (by kernel_rfl) (fun K8 hK8 => ?_)
      refine S_as rfl ?_
      refine S_as rfl ?_
      refine S_as rfl ?_
      refine S_nil (hK8 _ _ (V_keep [2, 3, 4] (by simp only [proj, lk, reduceIte, Nat.reduceEqDiff]; rfl) ?_)); clear hK8
      refine V_ret ?_
      refine hR _ _ (ret3 rfl rfl rfl rfl ?_)
      have hl : liE raw = (14, 0) := li_14 (by omega) (by omega)
      rw [hl]
      exact ⟨none, 0, 0, by simp, rfl, .inl rfl, Ext.refl _ _⟩
    · skip
      have hn4 : 4 ≤ raw.size := by omega
      refine S_gt rfl ?_
      refine S_mv rfl ?_
      refine S_gt rfl ?_
      refine S_mv rfl ?_
      refine S_gt rfl ?_
      refine S_subN (raw.size - 1) rfl rfl (by omega) (by omega) ?_
      refine S_gt rfl ?_
      refine S_siN (raw.size - 1) T.kd9 rfl rfl rfl (by omega) ?_
      have hb9 := bAt_lt raw (raw.size - 1)
      obtain ⟨b9, e9⟩ : ∃ x, x = bAt raw (raw.size - 1) := ⟨_, rfl⟩
      rw [← e9] at hb9 ⊢
      refine S_gt rfl ?_
      refine S_bin rfl rfl rfl ?_
      refine S_pf rfl rfl ?_
      refine S_nil (hK7 _ _ (V_keep [0, 5, 27] (by simp only [proj, lk, reduceIte, Nat.reduceEqDiff]; rfl) ?_)); clear hK7
      refine V_condp rfl (fun c74 => ?_) (fun c74 => ?_)
      · skip
        refine V_sr T.mix (by kernel_rfl) (fun K9 hK9 => ?_)
        refine S_as rfl ?_
        refine S_as rfl ?_
        refine S_as rfl ?_
        refine S_nil (hK9 _ _ (V_keep [2, 3, 4] (by simp only [proj, lk, reduceIte, Nat.reduceEqDiff]; rfl) ?_)); clear hK9
        refine V_ret ?_
        refine hR _ _ (ret3 rfl rfl rfl rfl ?_)
        have hl : liE raw = (14, 0) := li_14 (by omega) (by omega)
        rw [hl]
        exact ⟨none, 0, 0, by simp, rfl, .inl rfl, Ext.refl _ _⟩
      · skip
        refine V_skipk [0, 5] (by simp only [proj, lk, reduceIte, Nat.reduceEqDiff]; rfl) ?_
        refine hK6 _ _ ?_; clear hK6
        refine V_sr T.mix (by kernel_rfl) (fun K10 hK10 => ?_)
        refine S_mv rfl ?_
        refine S_mv rfl ?_
        refine S_subN (raw.size - 4) rfl rfl (by omega) (by omega) ?_
        refine S_siN (raw.size - 4) T.kd9 rfl rfl rfl (by omega) ?_
        have hbc := bAt_lt raw (raw.size - 4)
        obtain ⟨cn, ec⟩ : ∃ x, x = bAt raw (raw.size - 4) := ⟨_, rfl⟩
        rw [← ec] at hbc ⊢
        refine S_cvN cn T.us5 T.in3 rfl rfl (BitW.top_i64 (by omega)) ?_
        refine S_as rfl ?_
        refine S_nil (hK10 _ _ (V_keep [0, 5, 6] (by simp only [proj, lk, reduceIte, Nat.reduceEqDiff]; rfl) ?_)); clear hK10
        refine V_seq (fun K11 hK11 => ?_)
        refine V_sr T.mix (by kernel_rfl) (fun K12 hK12 => ?_)
        refine S_mv rfl ?_
        refine S_bin rfl rfl rfl ?_
        refine S_nil (hK12 _ _ (V_keep [0, 5, 6, 34] (by simp only [proj, lk, reduceIte, Nat.reduceEqDiff]; rfl) ?_)); clear hK12
        refine V_condp rfl (fun c78 => ?_) (fun c78 => ?_)
        · skip
          refine V_sr T.mix (by kernel_rfl) (fun K13 hK13 => ?_)
          refine S_mv rfl ?_
          refine S_subN (raw.size - 4) rfl rfl (by omega) (by omega) ?_
          refine S_as rfl ?_
          refine S_as rfl ?_
          refine S_as rfl ?_
          refine S_nil (hK13 _ _ (V_keep [2, 3, 4] (by simp only [proj, lk, reduceIte, Nat.reduceEqDiff]; rfl) ?_)); clear hK13
          refine V_ret ?_
          refine hR _ _ (ret3 rfl rfl rfl rfl ?_)
          have hl : liE raw = (17, raw.size - 4) := li_tl (a := 0) (b := 0) (by omega) (by unfold tlF; rw [if_neg (by omega), ← e9, if_neg (by omega), ← ec, if_pos (by omega)]) (by decide)
          rw [hl]
          exact ⟨none, 0, 0, by simp, rfl, .inl rfl, Ext.refl _ _⟩
        · skip
          refine V_skipk [0, 5, 6] (by simp only [proj, lk, reduceIte, Nat.reduceEqDiff]; rfl) ?_
          refine hK11 _ _ ?_; clear hK11
          refine V_sr T.mix (by kernel_rfl) (fun K14 hK14 => ?_)
          refine S_mv rfl ?_
          refine S_mv rfl ?_
          refine S_subN (raw.size - 3) rfl rfl (by omega) (by omega) ?_
          refine S_call T.hb80 rfl ?_
          have hw_dr := w2_lt raw (raw.size - 3)
          refine FC.mono (num_spec h raw (raw.size - 3) (by omega) hz) ?_
          obtain ⟨dr, e_dr⟩ : ∃ x, x = w2 raw (raw.size - 3) := ⟨_, rfl⟩
          rw [← e_dr] at hw_dr ⊢
          rintro v' h' ⟨rfl, rfl⟩
          refine S_as rfl ?_
          refine S_nil (hK14 _ _ (V_keep [0, 5, 6, 7] (by simp only [proj, lk, reduceIte, Nat.reduceEqDiff]; rfl) ?_)); clear hK14
          refine V_seq (fun K15 hK15 => ?_)
          refine V_sr T.mix (by kernel_rfl) (fun K16 hK16 => ?_)
          refine S_mv rfl ?_
          refine S_mv rfl ?_
          refine S_mul rfl rfl (by omega) (by omega) ?_
          refine S_addN (dr + 2 * cn) rfl rfl (by omega) (by omega) ?_
          refine S_mv rfl ?_
          refine S_subN (raw.size - 4) rfl rfl (by omega) (by omega) ?_
          refine S_bin rfl rfl rfl ?_
          refine S_nil (hK16 _ _ (V_keep [0, 5, 6, 7, 47] (by simp only [proj, lk, reduceIte, Nat.reduceEqDiff]; rfl) ?_)); clear hK16
          refine V_condp rfl (fun c82 => ?_) (fun c82 => ?_)
          · skip
            refine V_sr T.mix (by kernel_rfl) (fun K17 hK17 => ?_)
            refine S_mv rfl ?_
            refine S_subN (raw.size - 3) rfl rfl (by omega) (by omega) ?_
            refine S_as rfl ?_
            refine S_as rfl ?_
            refine S_as rfl ?_
            refine S_nil (hK17 _ _ (V_keep [2, 3, 4] (by simp only [proj, lk, reduceIte, Nat.reduceEqDiff]; rfl) ?_)); clear hK17
            refine V_ret ?_
            refine hR _ _ (ret3 rfl rfl rfl rfl ?_)
            have hl : liE raw = (15, raw.size - 3) := li_tl (a := 0) (b := 0) (by omega) (by unfold tlF; rw [if_neg (by omega), ← e9, if_neg (by omega), ← ec, if_neg (by omega), ← e_dr, if_pos (by omega)]) (by decide)
            rw [hl]
            exact ⟨none, 0, 0, by simp, rfl, .inl rfl, Ext.refl _ _⟩
          · skip
            have htl : tlF raw = (cn, dr, 0, 0) := by unfold tlF; rw [if_neg (by omega), ← e9, if_neg (by omega), ← ec, if_neg (by omega), ← e_dr, if_neg (by omega)]
            have hsm : dr + 2 * cn + 4 = raw.size := by omega
            refine V_skipk [0, 6, 7] (by simp only [proj, lk, reduceIte, Nat.reduceEqDiff]; rfl) ?_
            refine hK15 _ _ ?_; clear hK15
            refine V_sr T.mix (by kernel_rfl) (fun K18 hK18 => ?_)
            refine S_as rfl ?_
            refine S_nil (hK18 _ _ (V_keep [0, 6, 7, 8] (by simp only [proj, lk, reduceIte, Nat.reduceEqDiff]; rfl) ?_)); clear hK18
            refine V_seq (fun K19 hK19 => ?_)
            refine V_sr T.mix (by kernel_rfl) (fun K20 hK20 => ?_)
            refine S_as rfl ?_
            refine S_nil (hK20 _ _ (V_keep [0, 6, 7, 8, 9] (by simp only [proj, lk, reduceIte, Nat.reduceEqDiff]; rfl) ?_)); clear hK20
            refine V_block ?_
            refine V_loop (fun m l h' => ∃ (i : Nat) (hk : Heap) (ak : Option Addr) (ck : Nat), (i ≤ cn) ∧ (OwnR h.size hk ak i ck (rwL raw dr i) 133 6) ∧ (frE raw dr cn 0 = frE raw dr (cn - i) i) ∧ (Ext (fun _ => False) h hk) ∧ m = cn - i ∧ l = [(0, .string raw), (6, .int .i64 (cn : Int)), (7, .int .i64 (dr : Int)), (8, .slice ak i ck), (9, .int .i64 (i : Int))] ∧ hk = h') _ ⟨0, h, none, 0, Nat.zero_le _, OwnR.nil _ _ _ _, rfl, Ext.refl _ _, rfl, rfl, rfl⟩ ?_
            rintro m l h' ⟨i, hk, ak, ck, hi, hok_, hfr, hEk, rfl, rfl, rfl⟩ K21 hK21
            refine V_seq (fun K22 hK22 => ?_)
            refine V_sr T.mix (by kernel_rfl) (fun K23 hK23 => ?_)
            refine S_mv rfl ?_
            refine S_mv rfl ?_
            refine S_bin rfl rfl rfl ?_
            refine S_nil (hK23 _ _ (V_keep [0, 6, 7, 8, 9, 52] (by simp only [proj, lk, reduceIte, Nat.reduceEqDiff]; rfl) ?_)); clear hK23
            refine V_condp rfl (fun c86 => ?_) (fun c86 => ?_)
            · skip
              refine V_skipk [0, 6, 7, 8, 9] (by simp only [proj, lk, reduceIte, Nat.reduceEqDiff]; rfl) ?_
              refine hK22 _ _ ?_; clear hK22
              refine V_seq (fun K24 hK24 => ?_)
              refine V_block ?_
              refine V_sr T.mix (by kernel_rfl) (fun K25 hK25 => ?_)
              refine S_mv rfl ?_
              refine S_mv rfl ?_
              refine S_mul rfl rfl (by omega) (by omega) ?_
              refine S_addN (dr + 2 * i) rfl rfl (by omega) (by omega) ?_
              refine S_as rfl ?_
              refine S_nil (hK25 _ _ (V_keep [0, 6, 7, 8, 9, 10] (by simp only [proj, lk, reduceIte, Nat.reduceEqDiff]; rfl) ?_)); clear hK25
              refine V_sr T.mix (by kernel_rfl) (fun K26 hK26 => ?_)
              refine S_mv rfl ?_
              refine S_mv rfl ?_
              refine S_call T.hb80 rfl ?_
              have hw_o_ := w2_lt raw (dr + 2 * i)
              refine FC.mono (num_spec hk raw (dr + 2 * i) (by omega) hz) ?_
              obtain ⟨o_, e_o_⟩ : ∃ x, x = w2 raw (dr + 2 * i) := ⟨_, rfl⟩
              rw [← e_o_] at hw_o_ ⊢
              rintro v' h' ⟨rfl, rfl⟩
              refine S_as rfl ?_
              refine S_nil (hK26 _ _ (V_keep [0, 6, 7, 8, 9, 10, 11] (by simp only [proj, lk, reduceIte, Nat.reduceEqDiff]; rfl) ?_)); clear hK26
              refine V_seq (fun K27 hK27 => ?_)
              refine V_sr T.mix (by kernel_rfl) (fun K28 hK28 => ?_)
              refine S_mv rfl ?_
              refine S_mv rfl ?_
              refine S_bin rfl rfl rfl ?_
              refine S_nil (hK28 _ _ (V_keep [0, 6, 7, 8, 9, 10, 11, 64] (by simp only [proj, lk, reduceIte, Nat.reduceEqDiff]; rfl) ?_)); clear hK28
              refine V_condp rfl (fun c89 => ?_) (fun c89 => ?_)
              · skip
                refine V_sr T.mix (by kernel_rfl) (fun K29 hK29 => ?_)
                refine S_mv rfl ?_
                refine S_as rfl ?_
                refine S_as rfl ?_
                refine S_as rfl ?_
                refine S_nil (hK29 _ _ (V_keep [2, 3, 4] (by simp only [proj, lk, reduceIte, Nat.reduceEqDiff]; rfl) ?_)); clear hK29
                refine V_ret ?_
                refine hR _ _ (ret3 rfl rfl rfl rfl ?_)
                have hEX : Ext (fun _ => False) h _ := hEk
                have hse : spE raw dr (dr + 2 * i) = (15, (dr + 2 * i)) := by unfold spE; rw [if_pos (by show dr ≤ w2 raw _; omega)]
                have hq : frE raw dr cn 0 = (15, (dr + 2 * i)) := by rw [hfr, frE_step (by omega), if_pos (by rw [hse]; simp), hse]
                have hl : liE raw = (15, (dr + 2 * i)) := li_of (by omega) htl hq
                rw [hl]
                exact ⟨none, 0, 0, by simp, rfl, .inl rfl, hEX⟩
              · skip
                have so : (spR raw (dr + 2 * i)).off = o_ := e_o_.symm
                refine V_skipk [0, 6, 7, 8, 9, 10, 11] (by simp only [proj, lk, reduceIte, Nat.reduceEqDiff]; rfl) ?_
                refine hK27 _ _ ?_; clear hK27
                refine V_sr T.mix (by kernel_rfl) (fun K30 hK30 => ?_)
                refine S_mv rfl ?_
                refine S_mv rfl ?_
                refine S_siN o_ T.kd9 rfl rfl rfl (by omega) ?_
                have hbn := bAt_lt raw o_
                obtain ⟨nl, en⟩ : ∃ x, x = bAt raw o_ := ⟨_, rfl⟩
                rw [← en] at hbn ⊢
                have sh : (spR raw (dr + 2 * i)).head = o_ + 1 + nl := by rw [(sp_eq raw _).1, so, en]
                refine S_cvN nl T.us5 T.in3 rfl rfl (BitW.top_i64 (by omega)) ?_
                refine S_as rfl ?_
                refine S_nil (hK30 _ _ (V_keep [0, 6, 7, 8, 9, 10, 11, 12] (by simp only [proj, lk, reduceIte, Nat.reduceEqDiff]; rfl) ?_)); clear hK30
                refine V_seq (fun K31 hK31 => ?_)
                refine V_sr T.mix (by kernel_rfl) (fun K32 hK32 => ?_)
                refine S_mv rfl ?_
                refine S_addN (o_ + 1) rfl rfl (by omega) (by omega) ?_
                refine S_mv rfl ?_
                refine S_addN (o_ + 1 + nl) rfl rfl (by omega) (by omega) ?_
                refine S_addN (o_ + 1 + nl + 6) rfl rfl (by omega) (by omega) ?_
                refine S_mv rfl ?_
                refine S_bin rfl rfl rfl ?_
                refine S_nil (hK32 _ _ (V_keep [0, 6, 7, 8, 9, 10, 11, 12, 76] (by simp only [proj, lk, reduceIte, Nat.reduceEqDiff]; rfl) ?_)); clear hK32
                refine V_condp rfl (fun c93 => ?_) (fun c93 => ?_)
                · skip
                  refine V_sr T.mix (by kernel_rfl) (fun K33 hK33 => ?_)
                  refine S_mv rfl ?_
                  refine S_as rfl ?_
                  refine S_as rfl ?_
                  refine S_as rfl ?_
                  refine S_nil (hK33 _ _ (V_keep [2, 3, 4] (by simp only [proj, lk, reduceIte, Nat.reduceEqDiff]; rfl) ?_)); clear hK33
                  refine V_ret ?_
                  refine hR _ _ (ret3 rfl rfl rfl rfl ?_)
                  have hEX : Ext (fun _ => False) h _ := hEk
                  have hse : spE raw dr (dr + 2 * i) = (15, (dr + 2 * i)) := by unfold spE; rw [if_neg (by rw [so]; omega), if_pos (by rw [sh]; omega)]
                  have hq : frE raw dr cn 0 = (15, (dr + 2 * i)) := by rw [hfr, frE_step (by omega), if_pos (by rw [hse]; simp), hse]
                  have hl : liE raw = (15, (dr + 2 * i)) := li_of (by omega) htl hq
                  rw [hl]
                  exact ⟨none, 0, 0, by simp, rfl, .inl rfl, hEX⟩
                · skip
                  refine V_skipk [0, 6, 7, 8, 9, 10, 11, 12] (by simp only [proj, lk, reduceIte, Nat.reduceEqDiff]; rfl) ?_
                  refine hK31 _ _ ?_; clear hK31
                  refine V_sr T.mix (by kernel_rfl) (fun K34 hK34 => ?_)
                  refine S_mv rfl ?_
                  refine S_addN (o_ + 1) rfl rfl (by omega) (by omega) ?_
                  refine S_mv rfl ?_
                  refine S_addN (o_ + 1 + nl) rfl rfl (by omega) (by omega) ?_
                  refine S_as rfl ?_
                  refine S_nil (hK34 _ _ (V_keep [0, 6, 7, 8, 9, 10, 11, 12, 13] (by simp only [proj, lk, reduceIte, Nat.reduceEqDiff]; rfl) ?_)); clear hK34
                  refine V_sr T.mix (by kernel_rfl) (fun K35 hK35 => ?_)
                  refine S_mv rfl ?_
                  refine S_mv rfl ?_
                  refine S_addN (o_ + 1) rfl rfl (by omega) (by omega) ?_
                  refine S_mv rfl ?_
                  refine S_sl rfl rfl rfl (sliceV_str T.kd9 (by omega) (by omega) (by omega)) ?_
                  rw [Int.toNat_natCast, Int.toNat_natCast]
                  refine S_mv rfl ?_
                  refine S_addN (o_ + 1 + nl + 6) rfl rfl (by omega) (by omega) ?_
                  refine S_mv rfl ?_
                  refine S_bld rfl (T.bld133_0_3_5 _ _ _) ?_
                  refine S_allocA T.z133 ?_
                  generalize hh : Array.push hk _ = g1
                  have l1 : B g1 hk.size (r6 (⟨#[]⟩) (0) (0) (0) (0) (0)) 133 := by rw [← hh]; exact B.new _ _ _
                  have hEg1 : Ext (fun _ => False) hk g1 := by rw [← hh]; exact Ext.push _ _ _
                  clear hh
                  try clear q1 q2 q3 q4 qok
                  obtain ⟨q1, q2, q3, q4, qok⟩ := r6q (l1)
                  refine S_stl T.sz133 rfl rfl rfl rfl (fun j hj => by simp (disch := omega) only [qok]) ?_
                  generalize hh : putsH _ _ _ _ = g2
                  have l2 : B g2 (hk.size) (r6 (raw.extract (o_ + 1) (o_ + 1 + nl)) (0) (0) (o_ + 1 + nl + 6) (0) (o_)) 133 := by rw [← hh]; exact puts_all (l1) (cs' := (r6 (raw.extract (o_ + 1) (o_ + 1 + nl)) (0) (0) (o_ + 1 + nl + 6) (0) (o_))) rfl
                  have hEg2 : Ext (fun k => k = hk.size) g1 g2 := by rw [← hh]; exact Ext.puts (S := fun k => k = hk.size) rfl _ _ _
                  clear hh
                  try clear q1 q2 q3 q4 qok
                  obtain ⟨q1, q2, q3, q4, qok⟩ := r6q (l2)
                  refine S_nil (hK35 _ _ (V_keep [0, 6, 7, 8, 9, 10, 11, 12, 13, 14] (by simp only [proj, lk, reduceIte, Nat.reduceEqDiff]; rfl) ?_)); clear hK35
                  refine V_sr T.mix (by kernel_rfl) (fun K36 hK36 => ?_)
                  refine S_mv rfl ?_
                  refine S_mv rfl ?_
                  refine S_call T.hb80 rfl ?_
                  have hw_sz_ := w2_lt raw (o_ + 1 + nl)
                  refine FC.mono (num_spec g2 raw (o_ + 1 + nl) (by omega) hz) ?_
                  obtain ⟨sz_, e_sz_⟩ : ∃ x, x = w2 raw (o_ + 1 + nl) := ⟨_, rfl⟩
                  rw [← e_sz_] at hw_sz_ ⊢
                  rintro v' h' ⟨rfl, rfl⟩
                  first | refine S_fa0 T.f133_1 rfl ?_ | refine S_fa T.f133_1 rfl ?_
                  refine S_st T.sz3 rfl rfl rfl rfl (by simp (disch := omega) only [qok]) ?_
                  generalize hh : putH _ _ _ = g3
                  have l3 : B g3 hk.size (r6 (raw.extract (o_ + 1) (o_ + 1 + nl)) (sz_) (0) (o_ + 1 + nl + 6) (0) (o_)) 133 := by rw [← hh]; exact (l2.put 1 _).cong (by simp [r6])
                  have hEg3 : Ext (fun z => z = hk.size) g2 g3 := by rw [← hh]; exact Ext.put _ _ rfl
                  clear hh
                  try clear q1 q2 q3 q4 qok
                  obtain ⟨q1, q2, q3, q4, qok⟩ := r6q (l3)
                  refine S_nil (hK36 _ _ (V_keep [0, 6, 7, 8, 9, 10, 11, 12, 13, 14] (by simp only [proj, lk, reduceIte, Nat.reduceEqDiff]; rfl) ?_)); clear hK36
                  refine V_srM #[0, 1, 2, 3, 4, 5, 6, 7, 8] [0, 1, 2, 3, 4] 5 [6, 7, 8] T.mix (by kernel_rfl) rfl ⟨rfl, rfl⟩ (fun K37 hK37 => ?_)
                  first | refine S_fa0 T.f133_3 rfl ?_ | refine S_fa T.f133_3 rfl ?_
                  refine S_ldK T.ag3 rfl (fun K' hK' => ?_)
                  simp (disch := omega) only [q1, q2, q3, q4, oP_some, Nat.add_zero]
                  refine hK' _ ?_; clear hK' K'
                  refine S_mv rfl ?_
                  refine S_mv rfl ?_
                  refine S_addN (o_ + 1 + nl + 2) rfl rfl (by omega) (by omega) ?_
                  refine S_nil ?_
                  refine SM_call T.hb80 rfl ?_
                  have hw_lg := w2_lt raw (o_ + 1 + nl + 2)
                  refine FC.mono (num_spec g3 raw (o_ + 1 + nl + 2) (by omega) hz) ?_
                  obtain ⟨lg, e_lg⟩ : ∃ x, x = w2 raw (o_ + 1 + nl + 2) := ⟨_, rfl⟩
                  rw [← e_lg] at hw_lg ⊢
                  rintro v' h' ⟨rfl, rfl⟩
                  first | refine ⟨Grows.refl _, ?_⟩ | refine ⟨Grows.of_ext (by assumption), ?_⟩
                  refine S_addN (o_ + 1 + nl + 6 + lg) rfl rfl (by omega) (by omega) ?_
                  first | refine S_fa0 T.f133_4 rfl ?_ | refine S_fa T.f133_4 rfl ?_
                  refine S_st T.sz3 rfl rfl rfl rfl (by simp (disch := omega) only [qok]) ?_
                  generalize hh : putH _ _ _ = g4
                  have l4 : B g4 hk.size (r6 (raw.extract (o_ + 1) (o_ + 1 + nl)) (sz_) (0) (o_ + 1 + nl + 6) (o_ + 1 + nl + 6 + lg) (o_)) 133 := by rw [← hh]; exact (l3.put 4 _).cong (by simp [r6])
                  have hEg4 : Ext (fun z => z = hk.size) g3 g4 := by rw [← hh]; exact Ext.put _ _ rfl
                  clear hh
                  try clear q1 q2 q3 q4 qok
                  obtain ⟨q1, q2, q3, q4, qok⟩ := r6q (l4)
                  refine S_nil (hK37 _ _ (V_keep [0, 6, 7, 8, 9, 10, 11, 12, 13, 14] (by simp only [proj, lk, reduceIte, Nat.reduceEqDiff]; rfl) ?_)); clear hK37
                  refine V_sr T.mix (by kernel_rfl) (fun K38 hK38 => ?_)
                  refine S_mv rfl ?_
                  refine S_mv rfl ?_
                  refine S_addN (o_ + 1 + nl + 4) rfl rfl (by omega) (by omega) ?_
                  refine S_call T.hb80 rfl ?_
                  have hw_sm := w2_lt raw (o_ + 1 + nl + 4)
                  refine FC.mono (num_spec g4 raw (o_ + 1 + nl + 4) (by omega) hz) ?_
                  obtain ⟨sm, e_sm⟩ : ∃ x, x = w2 raw (o_ + 1 + nl + 4) := ⟨_, rfl⟩
                  rw [← e_sm] at hw_sm ⊢
                  rintro v' h' ⟨rfl, rfl⟩
                  first | refine S_fa0 T.f133_2 rfl ?_ | refine S_fa T.f133_2 rfl ?_
                  refine S_st T.sz3 rfl rfl rfl rfl (by simp (disch := omega) only [qok]) ?_
                  generalize hh : putH _ _ _ = g5
                  have l5 : B g5 hk.size (r6 (raw.extract (o_ + 1) (o_ + 1 + nl)) (sz_) (sm) (o_ + 1 + nl + 6) (o_ + 1 + nl + 6 + lg) (o_)) 133 := by rw [← hh]; exact (l4.put 2 _).cong (by simp [r6])
                  have hEg5 : Ext (fun z => z = hk.size) g4 g5 := by rw [← hh]; exact Ext.put _ _ rfl
                  clear hh
                  try clear q1 q2 q3 q4 qok
                  obtain ⟨q1, q2, q3, q4, qok⟩ := r6q (l5)
                  have ss : (spR raw (dr + 2 * i)).size = sz_ := by rw [(sp_eq raw _).2.2.1, sh, e_sz_]
                  have st_ : (spR raw (dr + 2 * i)).to = o_ + 1 + nl + 6 + lg := by rw [(sp_eq raw _).2.1, sh, e_lg]
                  have sm_ : (spR raw (dr + 2 * i)).sum = sm := by rw [(sp_eq raw _).2.2.2, sh, e_sm]
                  have hE05 : Ext (fun _ => False) hk g5 := ((((hEg1.step hEg2 (fun b hb e => by omega)).step hEg3 (fun b hb e => by omega)).step hEg4 (fun b hb e => by omega)).step hEg5 (fun b hb e => by omega))
                  have ho5 := hok_.ext hE05 (fun _ _ f => f)
                  have hEX : Ext (fun _ => False) h g5 := hEk.trans hE05
                  have hsX := hEX.1
                  refine S_nil (hK38 _ _ (V_keep [0, 6, 7, 8, 9, 10, 11, 12, 14] (by simp only [proj, lk, reduceIte, Nat.reduceEqDiff]; rfl) ?_)); clear hK38
                  refine V_seq (fun K39 hK39 => ?_)
                  refine V_sr T.mix (by kernel_rfl) (fun K40 hK40 => ?_)
                  first | refine S_fa0 T.f133_4 rfl ?_ | refine S_fa T.f133_4 rfl ?_
                  refine S_ldK T.ag3 rfl (fun K' hK' => ?_)
                  simp (disch := omega) only [q1, q2, q3, q4, oP_some, Nat.add_zero]
                  refine hK' _ ?_; clear hK' K'
                  refine S_mv rfl ?_
                  refine S_bin rfl rfl rfl ?_
                  refine S_nil (hK40 _ _ (V_keep [0, 6, 7, 8, 9, 10, 11, 12, 14, 111] (by simp only [proj, lk, reduceIte, Nat.reduceEqDiff]; rfl) ?_)); clear hK40
                  refine V_condp rfl (fun c101 => ?_) (fun c101 => ?_)
                  · skip
                    refine V_sr T.mix (by kernel_rfl) (fun K41 hK41 => ?_)
                    refine S_mv rfl ?_
                    refine S_as rfl ?_
                    refine S_as rfl ?_
                    refine S_as rfl ?_
                    refine S_nil (hK41 _ _ (V_keep [2, 3, 4] (by simp only [proj, lk, reduceIte, Nat.reduceEqDiff]; rfl) ?_)); clear hK41
                    refine V_ret ?_
                    refine hR _ _ (ret3 rfl rfl rfl rfl ?_)
                    have hse : spE raw dr (dr + 2 * i) = (15, (dr + 2 * i)) := by unfold spE; rw [if_neg (by rw [so]; omega), if_neg (by rw [sh]; omega), if_pos (by rw [st_]; omega)]
                    have hq : frE raw dr cn 0 = (15, (dr + 2 * i)) := by rw [hfr, frE_step (by omega), if_pos (by rw [hse]; simp), hse]
                    have hl : liE raw = (15, (dr + 2 * i)) := li_of (by omega) htl hq
                    rw [hl]
                    exact ⟨none, 0, 0, by simp, rfl, .inl rfl, hEX⟩
                  · skip
                    refine V_skipk [0, 6, 7, 8, 9, 11, 12, 14] (by simp only [proj, lk, reduceIte, Nat.reduceEqDiff]; rfl) ?_
                    refine hK39 _ _ ?_; clear hK39
                    refine V_seq (fun K42 hK42 => ?_)
                    refine V_sr T.mix (by kernel_rfl) (fun K43 hK43 => ?_)
                    refine S_mv rfl ?_
                    refine S_bin rfl rfl rfl ?_
                    refine S_mv rfl ?_
                    refine S_dec (fun g104 => ?_) (fun g104 => ?_)
                    · skip
                      refine S_gf rfl ?_
                      refine S_gf rfl ?_
                      refine S_pt rfl rfl ?_
                      refine S_nil (hK43 _ _ (V_keep [0, 6, 7, 8, 9, 11, 14, 118] (by simp only [proj, lk, reduceIte, Nat.reduceEqDiff]; rfl) ?_)); clear hK43
                      refine V_condt rfl ?_
                      refine V_sr T.mix (by kernel_rfl) (fun K44 hK44 => ?_)
                      refine S_mv rfl ?_
                      refine S_as rfl ?_
                      refine S_as rfl ?_
                      refine S_as rfl ?_
                      refine S_nil (hK44 _ _ (V_keep [2, 3, 4] (by simp only [proj, lk, reduceIte, Nat.reduceEqDiff]; rfl) ?_)); clear hK44
                      refine V_ret ?_
                      refine hR _ _ (ret3 rfl rfl rfl rfl ?_)
                      have hse : spE raw dr (dr + 2 * i) = (16, o_) := by unfold spE; rw [if_neg (by rw [so]; omega), if_neg (by rw [sh]; omega), if_neg (by rw [st_]; omega), if_pos (by rw [so, ← en]; omega), so]
                      have hq : frE raw dr cn 0 = (16, o_) := by rw [hfr, frE_step (by omega), if_pos (by rw [hse]; simp), hse]
                      have hl : liE raw = (16, o_) := li_of (by omega) htl hq
                      rw [hl]
                      exact ⟨none, 0, 0, by simp, rfl, .inl rfl, hEX⟩
                    · skip
                      refine S_gt rfl ?_
                      refine S_mv rfl ?_
                      refine S_gt rfl ?_
                      refine S_bin rfl rfl rfl ?_
                      refine S_pf rfl rfl ?_
                      refine S_nil (hK43 _ _ (V_keep [0, 6, 7, 8, 9, 11, 14, 118] (by simp only [proj, lk, reduceIte, Nat.reduceEqDiff]; rfl) ?_)); clear hK43
                      refine V_condp rfl (fun c104 => ?_) (fun c104 => ?_)
                      · skip
                        refine V_sr T.mix (by kernel_rfl) (fun K45 hK45 => ?_)
                        refine S_mv rfl ?_
                        refine S_as rfl ?_
                        refine S_as rfl ?_
                        refine S_as rfl ?_
                        refine S_nil (hK45 _ _ (V_keep [2, 3, 4] (by simp only [proj, lk, reduceIte, Nat.reduceEqDiff]; rfl) ?_)); clear hK45
                        refine V_ret ?_
                        refine hR _ _ (ret3 rfl rfl rfl rfl ?_)
                        have hse : spE raw dr (dr + 2 * i) = (16, o_) := by unfold spE; rw [if_neg (by rw [so]; omega), if_neg (by rw [sh]; omega), if_neg (by rw [st_]; omega), if_pos (by rw [so, ← en]; omega), so]
                        have hq : frE raw dr cn 0 = (16, o_) := by rw [hfr, frE_step (by omega), if_pos (by rw [hse]; simp), hse]
                        have hl : liE raw = (16, o_) := li_of (by omega) htl hq
                        rw [hl]
                        exact ⟨none, 0, 0, by simp, rfl, .inl rfl, hEX⟩
                      · skip
                        refine V_skipk [0, 6, 7, 8, 9, 11, 14] (by simp only [proj, lk, reduceIte, Nat.reduceEqDiff]; rfl) ?_
                        refine hK42 _ _ ?_; clear hK42
                        refine V_seq (fun K46 hK46 => ?_)
                        refine V_sr T.mix (by kernel_rfl) (fun K47 hK47 => ?_)
                        first | refine S_fa0 T.f133_1 rfl ?_ | refine S_fa T.f133_1 rfl ?_
                        refine S_ldK T.ag3 rfl (fun K' hK' => ?_)
                        simp (disch := omega) only [q1, q2, q3, q4, oP_some, Nat.add_zero]
                        refine hK' _ ?_; clear hK' K'
                        refine S_bin rfl rfl rfl ?_
                        refine S_nil (hK47 _ _ (V_keep [0, 6, 7, 8, 9, 11, 14, 122] (by simp only [proj, lk, reduceIte, Nat.reduceEqDiff]; rfl) ?_)); clear hK47
                        refine V_condp rfl (fun c107 => ?_) (fun c107 => ?_)
                        · skip
                          refine V_sr T.mix (by kernel_rfl) (fun K48 hK48 => ?_)
                          refine S_mv rfl ?_
                          refine S_as rfl ?_
                          refine S_as rfl ?_
                          refine S_as rfl ?_
                          refine S_nil (hK48 _ _ (V_keep [2, 3, 4] (by simp only [proj, lk, reduceIte, Nat.reduceEqDiff]; rfl) ?_)); clear hK48
                          refine V_ret ?_
                          refine hR _ _ (ret3 rfl rfl rfl rfl ?_)
                          have hse : spE raw dr (dr + 2 * i) = (19, o_) := by unfold spE; rw [if_neg (by rw [so]; omega), if_neg (by rw [sh]; omega), if_neg (by rw [st_]; omega), if_neg (by rw [so, ← en]; omega), if_pos (by rw [ss]; omega), so]
                          have hq : frE raw dr cn 0 = (19, o_) := by rw [hfr, frE_step (by omega), if_pos (by rw [hse]; simp), hse]
                          have hl : liE raw = (19, o_) := li_of (by omega) htl hq
                          rw [hl]
                          exact ⟨none, 0, 0, by simp, rfl, .inl rfl, hEX⟩
                        · skip
                          refine V_skipk [0, 6, 7, 8, 9, 11, 14] (by simp only [proj, lk, reduceIte, Nat.reduceEqDiff]; rfl) ?_
                          refine hK46 _ _ ?_; clear hK46
                          refine V_seq (fun K49 hK49 => ?_)
                          refine V_sr T.mix (by kernel_rfl) (fun K50 hK50 => ?_)
                          first | refine S_fa0 T.f133_4 rfl ?_ | refine S_fa T.f133_4 rfl ?_
                          refine S_ldK T.ag3 rfl (fun K' hK' => ?_)
                          simp (disch := omega) only [q1, q2, q3, q4, oP_some, Nat.add_zero]
                          refine hK' _ ?_; clear hK' K'
                          first | refine S_fa0 T.f133_3 rfl ?_ | refine S_fa T.f133_3 rfl ?_
                          refine S_ldK T.ag3 rfl (fun K' hK' => ?_)
                          simp (disch := omega) only [q1, q2, q3, q4, oP_some, Nat.add_zero]
                          refine hK' _ ?_; clear hK' K'
                          refine S_subN lg rfl rfl (by omega) (by omega) ?_
                          refine S_bin rfl rfl rfl ?_
                          refine S_nil (hK50 _ _ (V_keep [0, 6, 7, 8, 9, 11, 14, 129] (by simp only [proj, lk, reduceIte, Nat.reduceEqDiff]; rfl) ?_)); clear hK50
                          refine V_condp rfl (fun c110 => ?_) (fun c110 => ?_)
                          · skip
                            refine V_sr T.mix (by kernel_rfl) (fun K51 hK51 => ?_)
                            refine S_mv rfl ?_
                            refine S_as rfl ?_
                            refine S_as rfl ?_
                            refine S_as rfl ?_
                            refine S_nil (hK51 _ _ (V_keep [2, 3, 4] (by simp only [proj, lk, reduceIte, Nat.reduceEqDiff]; rfl) ?_)); clear hK51
                            refine V_ret ?_
                            refine hR _ _ (ret3 rfl rfl rfl rfl ?_)
                            have hse : spE raw dr (dr + 2 * i) = (1, o_) := by unfold spE; rw [if_neg (by rw [so]; omega), if_neg (by rw [sh]; omega), if_neg (by rw [st_]; omega), if_neg (by rw [so, ← en]; omega), if_neg (by rw [ss]; omega), if_pos (by rw [sh, ← e_lg]; omega), so]
                            have hq : frE raw dr cn 0 = (1, o_) := by rw [hfr, frE_step (by omega), if_pos (by rw [hse]; simp), hse]
                            have hl : liE raw = (1, o_) := li_of (by omega) htl hq
                            rw [hl]
                            exact ⟨none, 0, 0, by simp, rfl, .inl rfl, hEX⟩
                          · skip
                            have hsp0 : spE raw dr (dr + 2 * i) = (0, 0) := by unfold spE; rw [if_neg (by rw [so]; omega), if_neg (by rw [sh]; omega), if_neg (by rw [st_]; omega), if_neg (by rw [so, ← en]; omega), if_neg (by rw [ss]; omega), if_neg (by rw [sh, ← e_lg]; omega)]
                            refine V_skipk [0, 6, 7, 8, 9, 14] (by simp only [proj, lk, reduceIte, Nat.reduceEqDiff]; rfl) ?_
                            refine hK49 _ _ ?_; clear hK49
                            refine V_reg T.mix (by kernel_rfl) ?_
                            refine S_mv rfl ?_
                            refine S_ldn T.ag133 rfl (l5.all rfl) ?_
                            refine S_bs T.ei129 rfl (by decide) (by decide) (T.bs129_1_0 _ _ _ _ _ _) ?_
                            refine S_appx (lo := h.size) T.ei129 T.ni129 T.us129 rfl rfl rfl (OwnR.ext ho5 (Ext.push (fun _ => False) _ _) (fun _ _ f => f)) (by simp; omega) (cellsH_new _ _ _) rfl (by omega) (by decide) (by decide) rfl (fun a6 c6 h6 ho6 hE6x hb6x => ?_)
                            have hE56 : Ext (fun z => blkA ak = some z) g5 h6 := (Ext.push _ _ _).trans hE6x
                            have hE6 : Ext (fun _ => False) h h6 := hEX.step hE56 (fun z hz e => by have h9 := (OwnR.blk2 hok_ e).1; omega)
                            refine S_as rfl ?_
                            refine S_nilk [0, 6, 7, 8, 9] (by simp only [proj, lk, reduceIte, Nat.reduceEqDiff]; rfl) ?_
                            refine hK24 _ _ ?_; clear hK24
                            refine V_reg T.mix (by kernel_rfl) ?_
                            refine S_mv rfl ?_
                            refine S_addN (i + 1) rfl rfl (by omega) (by omega) ?_
                            refine S_as rfl ?_
                            refine S_nilk [0, 6, 7, 8, 9] (by simp only [proj, lk, reduceIte, Nat.reduceEqDiff]; rfl) ?_
                            exact hK21 _ _ ⟨_, by omega, i + 1, h6, a6, c6, by omega, by unfold rwL rw6 nmR; rw [so, sh, ss, st_, sm_]; exact ho6, by rw [hfr, frE_step (by omega), if_neg (by rw [hsp0]; simp)], hE6, rfl, rfl, rfl⟩
            · skip
              refine V_exitk [8] rfl (by simp only [proj, lk, reduceIte, Nat.reduceEqDiff]; rfl) ?_
              refine hK19 _ _ ?_; clear hK19
              refine V_sr T.mix (by kernel_rfl) (fun K52 hK52 => ?_)
              refine S_mv rfl ?_
              refine S_as rfl ?_
              refine S_as rfl ?_
              refine S_as rfl ?_
              refine S_nil (hK52 _ _ (V_keep [2, 3, 4] (by simp only [proj, lk, reduceIte, Nat.reduceEqDiff]; rfl) ?_)); clear hK52
              refine V_ret ?_
              refine hR _ _ (ret3 rfl rfl rfl rfl ?_)
              have hq : frE raw dr cn 0 = (0, 0) := by rw [hfr, show cn - i = 0 by omega]; rfl
              have hl : liE raw = (0, 0) := li_of (by omega) htl hq
              rw [hl]
              have hc : cnt raw = i := by unfold cnt; rw [htl]; simp only []; omega
              have hd : dirr raw = dr := by unfold dirr; rw [htl]
              exact ⟨ak, ck, i, by rw [if_pos rfl, hc], rfl, own_rv (cap := ck) (t := 133) (lo := h.size) (by rw [hd]; exact hok_), hEk⟩
set_option maxHeartbeats 3200000 in
theorem mlist_spec (h : Heap) (M : Nat) (raw : ByteArray) :
    FC Tryz.prog 38 (#[.pointer (some ⟨M, 0, none⟩), .string raw] : Array Value) h fun rv h' => ∃ (a : Option Addr) (L : List In), L = (if (liE raw).1 = 0 then liL raw else []) ∧ rv = .tuple #[.slice a L.length L.length, .int .i64 (((liE raw).1 : Nat) : Int), .int .i64 (((liE raw).2 : Nat) : Int)] ∧ IA h.size h' a L ∧ Ext (fun _ => False) h h' := by
  refine FC_of [(0, .pointer (some ⟨M, 0, none⟩)), (1, .string raw)] Tryz.func38 rfl Tryz.ntmps38 (by simp) rfl (fun R hR => ?_)
  refine V_keep [1] (by simp only [proj, lk, reduceIte, Nat.reduceEqDiff]; rfl) ?_
  refine V_sr T.mix (by kernel_rfl) (fun K1 hK1 => ?_)
  refine S_as rfl ?_
  refine S_as rfl ?_
  refine S_as rfl ?_
  refine S_nil (hK1 _ _ (V_keep [1] (by simp only [proj, lk, reduceIte, Nat.reduceEqDiff]; rfl) ?_)); clear hK1
  refine V_sr T.mix (by kernel_rfl) (fun K2 hK2 => ?_)
  refine S_mv rfl ?_
  refine S_call T.hb64 rfl ?_
  obtain ⟨le_, ele⟩ : ∃ x, x = (liE raw).1 := ⟨_, rfl⟩
  obtain ⟨lp, elp⟩ : ∃ x, x = (liE raw).2 := ⟨_, rfl⟩
  have hmr := mread_spec h raw
  rw [← ele, ← elp] at hmr
  refine FC.mono hmr ?_
  rintro v' h1 ⟨ra, rc, rn, hrn, rfl, rv, hE1⟩
  have hll : liE raw = (le_, lp) := by rw [ele, elp]
  refine S_mv rfl ?_
  refine S_ex rfl rfl ?_
  refine S_ex rfl rfl ?_
  refine S_ex rfl rfl ?_
  refine S_as rfl ?_
  refine S_as rfl ?_
  refine S_as rfl ?_
  refine S_nil (hK2 _ _ (V_keep [7, 8, 9] (by simp only [proj, lk, reduceIte, Nat.reduceEqDiff]; rfl) ?_)); clear hK2
  refine V_seq (fun K3 hK3 => ?_)
  refine V_sr T.mix (by kernel_rfl) (fun K4 hK4 => ?_)
  refine S_mv rfl ?_
  refine S_bin rfl rfl rfl ?_
  refine S_nil (hK4 _ _ (V_keep [7, 8, 9, 19] (by simp only [proj, lk, reduceIte, Nat.reduceEqDiff]; rfl) ?_)); clear hK4
  refine V_condp rfl (fun c120 => ?_) (fun c120 => ?_)
  · skip
    refine V_sr T.mix (by kernel_rfl) (fun K5 hK5 => ?_)
    refine S_mv rfl ?_
    refine S_mv rfl ?_
    refine S_as rfl ?_
    refine S_as rfl ?_
    refine S_as rfl ?_
    refine S_nil (hK5 _ _ (V_keep [4, 5, 6] (by simp only [proj, lk, reduceIte, Nat.reduceEqDiff]; rfl) ?_)); clear hK5
    refine V_ret ?_
    refine hR _ _ (ret3 rfl rfl rfl rfl ?_)
    rw [hll]
    exact ⟨none, [], by rw [if_neg (by simp only []; omega)], rfl, .inl ⟨rfl, rfl⟩, hE1⟩
  · skip
    have fe0 : le_ = 0 := by omega
    rw [if_pos fe0] at hrn
    obtain ⟨fm, hl0⟩ := li_ok (raw := raw) (by rw [← ele]; exact fe0)
    have fmc := fm.c
    have hh1 := hE1.1
    refine V_skipk [7] (by simp only [proj, lk, reduceIte, Nat.reduceEqDiff]; rfl) ?_
    refine hK3 _ _ ?_; clear hK3
    refine V_sr T.mix (by kernel_rfl) (fun K6 hK6 => ?_)
    refine S_mv rfl ?_
    refine S_lenl T.el129 rfl ?_
    refine S_mk T.ei38 rfl rfl (by omega) (by omega) (by omega) (by omega) ?_
    rw [Int.toNat_natCast]
    generalize hz0 : mkZ _ _ = cs0
    have hcz : cs0.size = rn * 3 := by rw [← hz0, mkZ_size]
    clear hz0
    generalize hh : Array.push h1 _ = h2
    have bo2 : B h2 h1.size cs0 122 := by rw [← hh]; exact B.new _ _ _
    have hEh2 : Ext (fun _ => False) h1 h2 := by rw [← hh]; exact Ext.push _ _ _
    clear hh
    have rv2 := rv.ext hEh2 (fun _ _ f => f)
    have hE2 : Ext (fun _ => False) h h2 := hE1.trans hEh2
    refine S_as rfl ?_
    refine S_nil (hK6 _ _ (V_keep [7, 10] (by simp only [proj, lk, reduceIte, Nat.reduceEqDiff]; rfl) ?_)); clear hK6
    refine V_seq (fun K7 hK7 => ?_)
    refine V_sr T.mix (by kernel_rfl) (fun K8 hK8 => ?_)
    refine S_as rfl ?_
    refine S_nil (hK8 _ _ (V_keep [7, 10, 11] (by simp only [proj, lk, reduceIte, Nat.reduceEqDiff]; rfl) ?_)); clear hK8
    refine V_block ?_
    refine V_loop (fun m l h' => ∃ (i : Nat) (hk : Heap) (csk : Array Value), (i ≤ rn) ∧ (RV hk ra raw rn) ∧ (∀ z, blkA ra = some z → 0 < rn → z < h1.size) ∧ (B hk h1.size csk 122) ∧ (csk.size = rn * 3) ∧ (∀ k, k < i → csk[k * 3]? = some (.string (inV raw (cel raw k)).1) ∧ csk[k * 3 + 1]? = some (.int .i64 (((inV raw (cel raw k)).2.1 : Nat) : Int)) ∧ csk[k * 3 + 2]? = some (.int .i64 (((inV raw (cel raw k)).2.2 : Nat) : Int))) ∧ (Ext (fun _ => False) h hk) ∧ m = rn - i ∧ l = [(7, .slice ra rn rc), (10, .slice (some ⟨h1.size, 0, none⟩) rn rn), (11, .int .i64 (i : Int))] ∧ hk = h') _ ⟨0, h2, cs0, Nat.zero_le _, rv2, fun z e hn => by obtain ⟨rb, e1, e2, _⟩ := rv.get hn; rw [e1] at e; cases e; exact e2, bo2, hcz, fun k hk => absurd hk (Nat.not_lt_zero _), hE2, rfl, rfl, rfl⟩ ?_
    rintro m l h' ⟨i, hk, csk, hi, rvk, rvb, bok, hcsz, hcs, hEk, rfl, rfl, rfl⟩ K9 hK9
    refine V_seq (fun K10 hK10 => ?_)
    refine V_sr T.mix (by kernel_rfl) (fun K11 hK11 => ?_)
    refine S_mv rfl ?_
    refine S_mv rfl ?_
    refine S_lenl T.el129 rfl ?_
    refine S_bin rfl rfl rfl ?_
    refine S_nil (hK11 _ _ (V_keep [7, 10, 11, 28] (by simp only [proj, lk, reduceIte, Nat.reduceEqDiff]; rfl) ?_)); clear hK11
    refine V_condp rfl (fun c124 => ?_) (fun c124 => ?_)
    · skip
      refine V_skipk [7, 10, 11] (by simp only [proj, lk, reduceIte, Nat.reduceEqDiff]; rfl) ?_
      refine hK10 _ _ ?_; clear hK10
      refine V_seq (fun K12 hK12 => ?_)
      refine V_block ?_
      refine V_reg T.mix (by kernel_rfl) ?_
      refine S_mv rfl ?_
      refine S_mv rfl ?_
      refine S_mv rfl ?_
      refine S_mv rfl ?_
      obtain ⟨rb, rfl, hrb, u0, u1, u2, u3, u4, u5⟩ := (rvk).get (i := i) (by omega)
      obtain ⟨ro, ero⟩ : ∃ x, x = (spR raw (cel raw i)).off := ⟨_, rfl⟩
      obtain ⟨rh, erh⟩ : ∃ x, x = (spR raw (cel raw i)).head := ⟨_, rfl⟩
      obtain ⟨rt, ert⟩ : ∃ x, x = (spR raw (cel raw i)).to := ⟨_, rfl⟩
      obtain ⟨rz, erz⟩ : ∃ x, x = (spR raw (cel raw i)).size := ⟨_, rfl⟩
      obtain ⟨ru, eru⟩ : ∃ x, x = (spR raw (cel raw i)).sum := ⟨_, rfl⟩
      obtain ⟨nmr, enr⟩ : ∃ x, x = nmR raw (cel raw i) := ⟨_, rfl⟩
      obtain ⟨_, p1, p2, p3, p4, p5, p6⟩ := sp_ok (fm.sp i (by omega))
      rw [← enr] at u0
      rw [← erz] at u1 p5
      rw [← eru] at u2
      rw [← erh] at u3 p1 p2 p4 p6
      rw [← ert] at u4 p2 p3 p6
      rw [← ero] at u5 p1 p4
      have fms := fm.s
      have fmz := fm.z
      try clear wok
      have wok : ∀ j, j < rn * 3 → okPut hk ⟨h1.size, j, none⟩ = true := fun j hj => bok.ok (by omega)
      refine S_ix T.el129 rfl rfl (by omega) (by omega) ?_
      rw [Nat.zero_add, Int.toNat_natCast]
      first | refine S_fa0 T.f133_0 rfl ?_ | refine S_fa T.f133_0 rfl ?_
      refine S_ldK T.ag9 rfl (fun K' hK' => ?_)
      simp (disch := omega) only [u0, u1, u2, u3, u4, u5, oP_some, Nat.add_zero]
      refine hK' _ ?_; clear hK' K'
      refine S_mv rfl ?_
      refine S_mv rfl ?_
      refine S_ix T.el129 rfl rfl (by omega) (by omega) ?_
      rw [Nat.zero_add, Int.toNat_natCast]
      first | refine S_fa0 T.f133_1 rfl ?_ | refine S_fa T.f133_1 rfl ?_
      refine S_ldK T.ag3 rfl (fun K' hK' => ?_)
      simp (disch := omega) only [u0, u1, u2, u3, u4, u5, oP_some, Nat.add_zero]
      refine hK' _ ?_; clear hK' K'
      refine S_mv rfl ?_
      refine S_mv rfl ?_
      refine S_ix T.el129 rfl rfl (by omega) (by omega) ?_
      rw [Nat.zero_add, Int.toNat_natCast]
      first | refine S_fa0 T.f133_4 rfl ?_ | refine S_fa T.f133_4 rfl ?_
      refine S_ldK T.ag3 rfl (fun K' hK' => ?_)
      simp (disch := omega) only [u0, u1, u2, u3, u4, u5, oP_some, Nat.add_zero]
      refine hK' _ ?_; clear hK' K'
      refine S_mv rfl ?_
      refine S_mv rfl ?_
      refine S_ix T.el129 rfl rfl (by omega) (by omega) ?_
      rw [Nat.zero_add, Int.toNat_natCast]
      first | refine S_fa0 T.f133_3 rfl ?_ | refine S_fa T.f133_3 rfl ?_
      refine S_ldK T.ag3 rfl (fun K' hK' => ?_)
      simp (disch := omega) only [u0, u1, u2, u3, u4, u5, oP_some, Nat.add_zero]
      refine hK' _ ?_; clear hK' K'
      refine S_subN (rt - (rh + 6)) rfl rfl (by omega) (by omega) ?_
      refine S_bld rfl (T.bld122_0_1_2 _ _ _) ?_
      refine S_ix T.el38 rfl rfl (by omega) (by omega) ?_
      rw [Nat.zero_add, Int.toNat_natCast]
      refine S_stl T.sz122 rfl rfl rfl rfl (fun j hj => by simp (disch := omega) only [wok]) ?_
      generalize hh : putsH _ _ _ _ = h4
      obtain ⟨cs4, bo4, hs4, hp4, hq4⟩ : ∃ cs4, B h4 h1.size cs4 122 ∧ cs4.size = csk.size ∧ (∀ j, j < 3 → cs4[i * 3 + j]? = ([.string nmr, .int .i64 ((rz : Nat) : Int), .int .i64 ((rt - (rh + 6) : Nat) : Int)] : List Value)[j]?) ∧ ∀ j, j < i * 3 ∨ i * 3 + 3 ≤ j → cs4[j]? = csk[j]? := by rw [← hh]; exact puts_at bok (by simp only [List.length_cons, List.length_nil]; omega)
      have hEh4 : Ext (fun z => z = h1.size) hk h4 := by rw [← hh]; exact Ext.puts (S := fun z => z = h1.size) rfl _ _ _
      clear hh
      refine S_nilk [7, 10, 11] (by simp only [proj, lk, reduceIte, Nat.reduceEqDiff]; rfl) ?_
      refine hK12 _ _ ?_; clear hK12
      refine V_reg T.mix (by kernel_rfl) ?_
      refine S_mv rfl ?_
      refine S_addN (i + 1) rfl rfl (by omega) (by omega) ?_
      refine S_as rfl ?_
      refine S_nilk [7, 10, 11] (by simp only [proj, lk, reduceIte, Nat.reduceEqDiff]; rfl) ?_
      exact hK9 _ _ ⟨_, by omega, i + 1, h4, cs4, by omega, rvk.ext1 hEh4 (fun z e y => by have h9 := rvb z e (by omega); omega), rvb, bo4, by omega, fun k hk => by
        by_cases e : k = i
        · subst e
          refine ⟨?_, ?_, ?_⟩
          · have h9 := hp4 0 (by omega); rw [Nat.add_zero] at h9; rw [h9]; unfold inV; rw [← enr]; rfl
          · rw [hp4 1 (by omega)]; unfold inV; rw [← erz]; rfl
          · rw [hp4 2 (by omega)]; unfold inV; rw [← ert, ← erh, Nat.sub_sub]; rfl
        · rw [hq4 _ (by omega), hq4 _ (by omega), hq4 _ (by omega)]; exact hcs k (by omega), hEk.step hEh4 (fun z hz e => by omega), rfl, rfl, rfl⟩
    · skip
      refine V_exitk [10] rfl (by simp only [proj, lk, reduceIte, Nat.reduceEqDiff]; rfl) ?_
      refine hK7 _ _ ?_; clear hK7
      refine V_sr T.mix (by kernel_rfl) (fun K13 hK13 => ?_)
      refine S_mv rfl ?_
      refine S_as rfl ?_
      refine S_as rfl ?_
      refine S_as rfl ?_
      refine S_nil (hK13 _ _ (V_keep [4, 5, 6] (by simp only [proj, lk, reduceIte, Nat.reduceEqDiff]; rfl) ?_)); clear hK13
      refine V_ret ?_
      refine hR _ _ (ret3 rfl rfl rfl rfl ?_)
      rw [hl0]
      have hLl := liL_len raw
      refine ⟨some ⟨h1.size, 0, none⟩, liL raw, by simp, by rw [hLl, ← hrn]; rfl, .inr ⟨h1.size, csk, rfl, hh1, bok, by rw [hLl, ← hrn]; exact hcsz, fun k hk => ?_⟩, hEk⟩
      rw [hLl] at hk
      rw [liL_at hk]
      exact hcs k (by omega)
set_option maxHeartbeats 6400000 in
theorem munpack_spec (h : Heap) (M : Nat) (raw : ByteArray) :
    FC Tryz.prog 41 (#[.pointer (some ⟨M, 0, none⟩), .string raw] : Array Value) h fun rv h' => ∃ (a : Option Addr) (L : List En), L = (if (unG raw).1 = 0 then unL raw else []) ∧ rv = .tuple #[.slice a L.length L.length, .int .i64 (((unG raw).1 : Nat) : Int), .int .i64 (((unG raw).2 : Nat) : Int)] ∧ EA h.size h' a L ∧ Ext (fun _ => False) h h' := by
  refine FC_of [(0, .pointer (some ⟨M, 0, none⟩)), (1, .string raw)] Tryz.func41 rfl Tryz.ntmps41 (by simp) rfl (fun R hR => ?_)
  refine V_keep [1] (by simp only [proj, lk, reduceIte, Nat.reduceEqDiff]; rfl) ?_
  refine V_sr T.mix (by kernel_rfl) (fun K1 hK1 => ?_)
  refine S_as rfl ?_
  refine S_as rfl ?_
  refine S_as rfl ?_
  refine S_nil (hK1 _ _ (V_keep [1] (by simp only [proj, lk, reduceIte, Nat.reduceEqDiff]; rfl) ?_)); clear hK1
  refine V_sr T.mix (by kernel_rfl) (fun K2 hK2 => ?_)
  refine S_mv rfl ?_
  refine S_call T.hb64 rfl ?_
  obtain ⟨le_, ele⟩ : ∃ x, x = (liE raw).1 := ⟨_, rfl⟩
  obtain ⟨lp, elp⟩ : ∃ x, x = (liE raw).2 := ⟨_, rfl⟩
  have hmr := mread_spec h raw
  rw [← ele, ← elp] at hmr
  refine FC.mono hmr ?_
  rintro v' h1 ⟨ra, rc, rn, hrn, rfl, rv, hE1⟩
  have hll : liE raw = (le_, lp) := by rw [ele, elp]
  refine S_mv rfl ?_
  refine S_ex rfl rfl ?_
  refine S_ex rfl rfl ?_
  refine S_ex rfl rfl ?_
  refine S_as rfl ?_
  refine S_as rfl ?_
  refine S_as rfl ?_
  refine S_nil (hK2 _ _ (V_keep [1, 7, 8, 9] (by simp only [proj, lk, reduceIte, Nat.reduceEqDiff]; rfl) ?_)); clear hK2
  refine V_seq (fun K3 hK3 => ?_)
  refine V_sr T.mix (by kernel_rfl) (fun K4 hK4 => ?_)
  refine S_mv rfl ?_
  refine S_bin rfl rfl rfl ?_
  refine S_nil (hK4 _ _ (V_keep [1, 7, 8, 9, 22] (by simp only [proj, lk, reduceIte, Nat.reduceEqDiff]; rfl) ?_)); clear hK4
  refine V_condp rfl (fun c132 => ?_) (fun c132 => ?_)
  · skip
    refine V_sr T.mix (by kernel_rfl) (fun K5 hK5 => ?_)
    refine S_mv rfl ?_
    refine S_mv rfl ?_
    refine S_as rfl ?_
    refine S_as rfl ?_
    refine S_as rfl ?_
    refine S_nil (hK5 _ _ (V_keep [4, 5, 6] (by simp only [proj, lk, reduceIte, Nat.reduceEqDiff]; rfl) ?_)); clear hK5
    refine V_ret ?_
    refine hR _ _ (ret3 rfl rfl rfl rfl ?_)
    rw [li_un (by rw [hll]; simp only []; omega), hll]
    exact ⟨none, [], by rw [if_neg (by simp only []; omega)], rfl, .inl ⟨rfl, rfl⟩, hE1⟩
  · skip
    have fe0 : le_ = 0 := by omega
    rw [if_pos fe0] at hrn
    obtain ⟨fm, hl0⟩ := li_ok (raw := raw) (by rw [← ele]; exact fe0)
    have fmc := fm.c
    have hh1 := hE1.1
    refine V_skipk [1, 7] (by simp only [proj, lk, reduceIte, Nat.reduceEqDiff]; rfl) ?_
    refine hK3 _ _ ?_; clear hK3
    refine V_sr T.mix (by kernel_rfl) (fun K6 hK6 => ?_)
    refine S_mv rfl ?_
    refine S_lenl T.el129 rfl ?_
    refine S_mk T.ei37 rfl rfl (by omega) (by omega) (by omega) (by omega) ?_
    rw [Int.toNat_natCast]
    generalize hz0 : mkZ _ _ = cs0
    have hcz : cs0.size = rn * 2 := by rw [← hz0, mkZ_size]
    clear hz0
    generalize hh : Array.push h1 _ = h2
    have bo2 : B h2 h1.size cs0 104 := by rw [← hh]; exact B.new _ _ _
    have hEh2 : Ext (fun _ => False) h1 h2 := by rw [← hh]; exact Ext.push _ _ _
    clear hh
    have rv2 := rv.ext hEh2 (fun _ _ f => f)
    have hE2 : Ext (fun _ => False) h h2 := hE1.trans hEh2
    refine S_as rfl ?_
    refine S_nil (hK6 _ _ (V_keep [1, 7, 10] (by simp only [proj, lk, reduceIte, Nat.reduceEqDiff]; rfl) ?_)); clear hK6
    refine V_seq (fun K7 hK7 => ?_)
    refine V_sr T.mix (by kernel_rfl) (fun K8 hK8 => ?_)
    refine S_as rfl ?_
    refine S_nil (hK8 _ _ (V_keep [1, 7, 10, 11] (by simp only [proj, lk, reduceIte, Nat.reduceEqDiff]; rfl) ?_)); clear hK8
    refine V_block ?_
    refine V_loop (fun m l h' => ∃ (i : Nat) (hk : Heap) (csk : Array Value), (i ≤ rn) ∧ (RV hk ra raw rn) ∧ (∀ z, blkA ra = some z → 0 < rn → z < h1.size) ∧ (B hk h1.size csk 104) ∧ (csk.size = rn * 2) ∧ (∀ k, k < i → csk[k * 2]? = some (.string (enV raw (cel raw k)).1) ∧ csk[k * 2 + 1]? = some (.string (enV raw (cel raw k)).2)) ∧ (unE raw rn 0 = unE raw (rn - i) i) ∧ (Ext (fun _ => False) h hk) ∧ m = rn - i ∧ l = [(1, .string raw), (7, .slice ra rn rc), (10, .slice (some ⟨h1.size, 0, none⟩) rn rn), (11, .int .i64 (i : Int))] ∧ hk = h') _ ⟨0, h2, cs0, Nat.zero_le _, rv2, fun z e hn => by obtain ⟨rb, e1, e2, _⟩ := rv.get hn; rw [e1] at e; cases e; exact e2, bo2, hcz, fun k hk => absurd hk (Nat.not_lt_zero _), rfl, hE2, rfl, rfl, rfl⟩ ?_
    rintro m l h' ⟨i, hk, csk, hi, rvk, rvb, bok, hcsz, hcs, hun, hEk, rfl, rfl, rfl⟩ K9 hK9
    refine V_seq (fun K10 hK10 => ?_)
    refine V_sr T.mix (by kernel_rfl) (fun K11 hK11 => ?_)
    refine S_mv rfl ?_
    refine S_mv rfl ?_
    refine S_lenl T.el129 rfl ?_
    refine S_bin rfl rfl rfl ?_
    refine S_nil (hK11 _ _ (V_keep [1, 7, 10, 11, 31] (by simp only [proj, lk, reduceIte, Nat.reduceEqDiff]; rfl) ?_)); clear hK11
    refine V_condp rfl (fun c136 => ?_) (fun c136 => ?_)
    · skip
      refine V_skipk [1, 7, 10, 11] (by simp only [proj, lk, reduceIte, Nat.reduceEqDiff]; rfl) ?_
      refine hK10 _ _ ?_; clear hK10
      refine V_seq (fun K12 hK12 => ?_)
      refine V_block ?_
      refine V_sr T.mix (by kernel_rfl) (fun K13 hK13 => ?_)
      refine S_mv rfl ?_
      refine S_mv rfl ?_
      refine S_mv rfl ?_
      obtain ⟨rb, rfl, hrb, u0, u1, u2, u3, u4, u5⟩ := (rvk).get (i := i) (by omega)
      obtain ⟨ro, ero⟩ : ∃ x, x = (spR raw (cel raw i)).off := ⟨_, rfl⟩
      obtain ⟨rh, erh⟩ : ∃ x, x = (spR raw (cel raw i)).head := ⟨_, rfl⟩
      obtain ⟨rt, ert⟩ : ∃ x, x = (spR raw (cel raw i)).to := ⟨_, rfl⟩
      obtain ⟨rz, erz⟩ : ∃ x, x = (spR raw (cel raw i)).size := ⟨_, rfl⟩
      obtain ⟨ru, eru⟩ : ∃ x, x = (spR raw (cel raw i)).sum := ⟨_, rfl⟩
      obtain ⟨nmr, enr⟩ : ∃ x, x = nmR raw (cel raw i) := ⟨_, rfl⟩
      obtain ⟨_, p1, p2, p3, p4, p5, p6⟩ := sp_ok (fm.sp i (by omega))
      rw [← enr] at u0
      rw [← erz] at u1 p5
      rw [← eru] at u2
      rw [← erh] at u3 p1 p2 p4 p6
      rw [← ert] at u4 p2 p3 p6
      rw [← ero] at u5 p1 p4
      have fms := fm.s
      have fmz := fm.z
      refine S_ix T.el129 rfl rfl (by omega) (by omega) ?_
      rw [Nat.zero_add, Int.toNat_natCast]
      first | refine S_fa0 T.f133_3 rfl ?_ | refine S_fa T.f133_3 rfl ?_
      refine S_ldK T.ag3 rfl (fun K' hK' => ?_)
      simp (disch := omega) only [u0, u1, u2, u3, u4, u5, oP_some, Nat.add_zero]
      refine hK' _ ?_; clear hK' K'
      refine S_mv rfl ?_
      refine S_mv rfl ?_
      refine S_ix T.el129 rfl rfl (by omega) (by omega) ?_
      rw [Nat.zero_add, Int.toNat_natCast]
      first | refine S_fa0 T.f133_4 rfl ?_ | refine S_fa T.f133_4 rfl ?_
      refine S_ldK T.ag3 rfl (fun K' hK' => ?_)
      simp (disch := omega) only [u0, u1, u2, u3, u4, u5, oP_some, Nat.add_zero]
      refine hK' _ ?_; clear hK' K'
      refine S_sl rfl rfl rfl (sliceV_str T.kd9 (by omega) (by omega) (by omega)) ?_
      rw [Int.toNat_natCast, Int.toNat_natCast]
      refine S_call T.hb66 rfl ?_
      have hrun := run_spec hk (raw.extract (rh + 6) rt)
      obtain ⟨xe, exe⟩ : ∃ x, x = (ruF (raw.extract (rh + 6) rt)).e := ⟨_, rfl⟩
      obtain ⟨xo, exo⟩ : ∃ x, x = mkS (ruF (raw.extract (rh + 6) rt)).out := ⟨_, rfl⟩
      rw [← exe, ← exo] at hrun
      refine FC.mono hrun ?_
      rintro v' h3 ⟨rfl, hE13⟩
      have bo3 := bok.ext hE13 (fun f => f)
      have hE3 : Ext (fun _ => False) h h3 := hEk.trans hE13
      have hxo : (ruF (raw.extract (rh + 6) rt)).out.length = xo.size := by rw [exo, mkS_size]
      clear u0 u1 u2 u3 u4 u5
      obtain ⟨rb2, hrb2, _, u0, u1, u2, u3, u4, u5⟩ := (rvk.ext hE13 (fun _ _ f => f)).get (i := i) (by omega)
      cases hrb2
      rw [← enr] at u0
      rw [← erz] at u1
      rw [← eru] at u2
      rw [← erh] at u3
      rw [← ert] at u4
      rw [← ero] at u5
      try clear wok
      have wok : ∀ j, j < rn * 2 → okPut h3 ⟨h1.size, j, none⟩ = true := fun j hj => bo3.ok (by omega)
      refine S_mv rfl ?_
      refine S_ex rfl rfl ?_
      refine S_ex rfl rfl ?_
      refine S_ex rfl rfl ?_
      refine S_as rfl ?_
      refine S_as rfl ?_
      refine S_as rfl ?_
      refine S_nil (hK13 _ _ (V_keep [1, 7, 10, 11, 12, 13] (by simp only [proj, lk, reduceIte, Nat.reduceEqDiff]; rfl) ?_)); clear hK13
      refine V_seq (fun K14 hK14 => ?_)
      refine V_sr T.mix (by kernel_rfl) (fun K15 hK15 => ?_)
      refine S_mv rfl ?_
      refine S_bin rfl rfl rfl ?_
      refine S_nil (hK15 _ _ (V_keep [1, 7, 10, 11, 12, 13, 52] (by simp only [proj, lk, reduceIte, Nat.reduceEqDiff]; rfl) ?_)); clear hK15
      refine V_condp rfl (fun c138 => ?_) (fun c138 => ?_)
      · skip
        refine V_sr T.mix (by kernel_rfl) (fun K16 hK16 => ?_)
        refine S_mv rfl ?_
        refine S_mv rfl ?_
        refine S_mv rfl ?_
        refine S_ix T.el129 rfl rfl (by omega) (by omega) ?_
        rw [Nat.zero_add, Int.toNat_natCast]
        first | refine S_fa0 T.f133_5 rfl ?_ | refine S_fa T.f133_5 rfl ?_
        refine S_ldK T.ag3 rfl (fun K' hK' => ?_)
        simp (disch := omega) only [u0, u1, u2, u3, u4, u5, oP_some, Nat.add_zero]
        refine hK' _ ?_; clear hK' K'
        refine S_as rfl ?_
        refine S_as rfl ?_
        refine S_as rfl ?_
        refine S_nil (hK16 _ _ (V_keep [4, 5, 6] (by simp only [proj, lk, reduceIte, Nat.reduceEqDiff]; rfl) ?_)); clear hK16
        refine V_ret ?_
        refine hR _ _ (ret3 rfl rfl rfl rfl ?_)
        have hen : enE raw (cel raw i) = xe := by unfold enE txR; rw [← erh, ← ert, if_pos (by omega)]; exact exe.symm
        have hq : unE raw rn 0 = (xe, ro) := by rw [hun, unE_step (by omega), if_pos (by rw [hen]; omega), hen, ← ero]
        have hug : unG raw = (xe, ro) := by rw [li_un0 (by rw [hl0]), ← hrn]; exact hq
        rw [hug]
        exact ⟨none, [], by rw [if_neg (by simp only []; omega)], rfl, .inl ⟨rfl, rfl⟩, hE3⟩
      · skip
        refine V_skipk [1, 7, 10, 11, 12] (by simp only [proj, lk, reduceIte, Nat.reduceEqDiff]; rfl) ?_
        refine hK14 _ _ ?_; clear hK14
        refine V_seq (fun K17 hK17 => ?_)
        refine V_sr T.mix (by kernel_rfl) (fun K18 hK18 => ?_)
        refine S_mv rfl ?_
        refine S_lens T.kd9 rfl ?_
        refine S_mv rfl ?_
        refine S_mv rfl ?_
        refine S_ix T.el129 rfl rfl (by omega) (by omega) ?_
        rw [Nat.zero_add, Int.toNat_natCast]
        first | refine S_fa0 T.f133_1 rfl ?_ | refine S_fa T.f133_1 rfl ?_
        refine S_ldK T.ag3 rfl (fun K' hK' => ?_)
        simp (disch := omega) only [u0, u1, u2, u3, u4, u5, oP_some, Nat.add_zero]
        refine hK' _ ?_; clear hK' K'
        refine S_bin rfl rfl rfl ?_
        refine S_nil (hK18 _ _ (V_keep [1, 7, 10, 11, 12, 66] (by simp only [proj, lk, reduceIte, Nat.reduceEqDiff]; rfl) ?_)); clear hK18
        refine V_condp rfl (fun c141 => ?_) (fun c141 => ?_)
        · skip
          refine V_sr T.mix (by kernel_rfl) (fun K19 hK19 => ?_)
          refine S_mv rfl ?_
          refine S_mv rfl ?_
          refine S_ix T.el129 rfl rfl (by omega) (by omega) ?_
          rw [Nat.zero_add, Int.toNat_natCast]
          first | refine S_fa0 T.f133_5 rfl ?_ | refine S_fa T.f133_5 rfl ?_
          refine S_ldK T.ag3 rfl (fun K' hK' => ?_)
          simp (disch := omega) only [u0, u1, u2, u3, u4, u5, oP_some, Nat.add_zero]
          refine hK' _ ?_; clear hK' K'
          refine S_as rfl ?_
          refine S_as rfl ?_
          refine S_as rfl ?_
          refine S_nil (hK19 _ _ (V_keep [4, 5, 6] (by simp only [proj, lk, reduceIte, Nat.reduceEqDiff]; rfl) ?_)); clear hK19
          refine V_ret ?_
          refine hR _ _ (ret3 rfl rfl rfl rfl ?_)
          have hen : enE raw (cel raw i) = 19 := by unfold enE txR; rw [← erh, ← ert, if_neg (by omega), if_pos (by rw [← erz]; omega)]
          have hq : unE raw rn 0 = (19, ro) := by rw [hun, unE_step (by omega), if_pos (by rw [hen]; omega), hen, ← ero]
          have hug : unG raw = (19, ro) := by rw [li_un0 (by rw [hl0]), ← hrn]; exact hq
          rw [hug]
          exact ⟨none, [], by rw [if_neg (by simp only []; omega)], rfl, .inl ⟨rfl, rfl⟩, hE3⟩
        · skip
          refine V_skipk [1, 7, 10, 11, 12] (by simp only [proj, lk, reduceIte, Nat.reduceEqDiff]; rfl) ?_
          refine hK17 _ _ ?_; clear hK17
          refine V_seq (fun K20 hK20 => ?_)
          refine V_srM #[0, 6, 1, 2, 3, 4, 5, 7] [0, 2, 3, 4, 5, 6] 1 [7] T.mix (by kernel_rfl) rfl ⟨rfl, rfl⟩ (fun K21 hK21 => ?_)
          refine S_mv rfl ?_
          refine S_mv rfl ?_
          refine S_mv rfl ?_
          refine S_ix T.el129 rfl rfl (by omega) (by omega) ?_
          rw [Nat.zero_add, Int.toNat_natCast]
          first | refine S_fa0 T.f133_2 rfl ?_ | refine S_fa T.f133_2 rfl ?_
          refine S_ldK T.ag3 rfl (fun K' hK' => ?_)
          simp (disch := omega) only [u0, u1, u2, u3, u4, u5, oP_some, Nat.add_zero]
          refine hK' _ ?_; clear hK' K'
          refine S_nil ?_
          refine SM_call T.hb56 rfl ?_
          refine FC.mono (sum_spec h3 xo (by omega)) ?_
          rintro v' h' ⟨rfl, rfl⟩
          first | refine ⟨Grows.refl _, ?_⟩ | refine ⟨Grows.of_ext (by assumption), ?_⟩
          refine S_bin rfl rfl rfl ?_
          refine S_nil (hK21 _ _ (V_keep [1, 7, 10, 11, 12, 79] (by simp only [proj, lk, reduceIte, Nat.reduceEqDiff]; rfl) ?_)); clear hK21
          refine V_condp rfl (fun c144 => ?_) (fun c144 => ?_)
          · skip
            refine V_sr T.mix (by kernel_rfl) (fun K22 hK22 => ?_)
            refine S_mv rfl ?_
            refine S_mv rfl ?_
            refine S_ix T.el129 rfl rfl (by omega) (by omega) ?_
            rw [Nat.zero_add, Int.toNat_natCast]
            first | refine S_fa0 T.f133_5 rfl ?_ | refine S_fa T.f133_5 rfl ?_
            refine S_ldK T.ag3 rfl (fun K' hK' => ?_)
            simp (disch := omega) only [u0, u1, u2, u3, u4, u5, oP_some, Nat.add_zero]
            refine hK' _ ?_; clear hK' K'
            refine S_as rfl ?_
            refine S_as rfl ?_
            refine S_as rfl ?_
            refine S_nil (hK22 _ _ (V_keep [4, 5, 6] (by simp only [proj, lk, reduceIte, Nat.reduceEqDiff]; rfl) ?_)); clear hK22
            refine V_ret ?_
            refine hR _ _ (ret3 rfl rfl rfl rfl ?_)
            have hen : enE raw (cel raw i) = 18 := by unfold enE txR; rw [← erh, ← ert, if_neg (by omega), if_neg (by rw [← erz]; omega), if_pos (by rw [← eru, ← exo]; omega)]
            have hq : unE raw rn 0 = (18, ro) := by rw [hun, unE_step (by omega), if_pos (by rw [hen]; omega), hen, ← ero]
            have hug : unG raw = (18, ro) := by rw [li_un0 (by rw [hl0]), ← hrn]; exact hq
            rw [hug]
            exact ⟨none, [], by rw [if_neg (by simp only []; omega)], rfl, .inl ⟨rfl, rfl⟩, hE3⟩
          · skip
            refine V_skipk [1, 7, 10, 11, 12] (by simp only [proj, lk, reduceIte, Nat.reduceEqDiff]; rfl) ?_
            refine hK20 _ _ ?_; clear hK20
            refine V_reg T.mix (by kernel_rfl) ?_
            refine S_mv rfl ?_
            refine S_mv rfl ?_
            refine S_mv rfl ?_
            refine S_mv rfl ?_
            refine S_ix T.el129 rfl rfl (by omega) (by omega) ?_
            rw [Nat.zero_add, Int.toNat_natCast]
            first | refine S_fa0 T.f133_0 rfl ?_ | refine S_fa T.f133_0 rfl ?_
            refine S_ldK T.ag9 rfl (fun K' hK' => ?_)
            simp (disch := omega) only [u0, u1, u2, u3, u4, u5, oP_some, Nat.add_zero]
            refine hK' _ ?_; clear hK' K'
            refine S_mv rfl ?_
            refine S_bld rfl (T.bld104_0_1 _ _) ?_
            refine S_ix T.el37 rfl rfl (by omega) (by omega) ?_
            rw [Nat.zero_add, Int.toNat_natCast]
            refine S_stl T.sz104 rfl rfl rfl rfl (fun j hj => by simp (disch := omega) only [wok]) ?_
            generalize hh : putsH _ _ _ _ = h4
            obtain ⟨cs4, bo4, hs4, hp4, hq4⟩ : ∃ cs4, B h4 h1.size cs4 104 ∧ cs4.size = csk.size ∧ (∀ j, j < 2 → cs4[i * 2 + j]? = ([.string nmr, .string xo] : List Value)[j]?) ∧ ∀ j, j < i * 2 ∨ i * 2 + 2 ≤ j → cs4[j]? = csk[j]? := by rw [← hh]; exact puts_at bo3 (by simp only [List.length_cons, List.length_nil]; omega)
            have hEh4 : Ext (fun z => z = h1.size) h3 h4 := by rw [← hh]; exact Ext.puts (S := fun z => z = h1.size) rfl _ _ _
            clear hh
            have hen0 : enE raw (cel raw i) = 0 := by unfold enE txR; rw [← erh, ← ert, if_neg (by omega), if_neg (by rw [← erz]; omega), if_neg (by rw [← eru, ← exo]; omega)]
            refine S_nilk [1, 7, 10, 11] (by simp only [proj, lk, reduceIte, Nat.reduceEqDiff]; rfl) ?_
            refine hK12 _ _ ?_; clear hK12
            refine V_reg T.mix (by kernel_rfl) ?_
            refine S_mv rfl ?_
            refine S_addN (i + 1) rfl rfl (by omega) (by omega) ?_
            refine S_as rfl ?_
            refine S_nilk [1, 7, 10, 11] (by simp only [proj, lk, reduceIte, Nat.reduceEqDiff]; rfl) ?_
            exact hK9 _ _ ⟨_, by omega, i + 1, h4, cs4, by omega, (rvk.ext hE13 (fun _ _ f => f)).ext1 hEh4 (fun z e y => by have h9 := rvb z e (by omega); omega), rvb, bo4, by omega, fun k hk => by
              by_cases e : k = i
              · subst e
                refine ⟨?_, ?_⟩
                · have h9 := hp4 0 (by omega); rw [Nat.add_zero] at h9; rw [h9]; unfold enV; rw [← enr]; rfl
                · rw [hp4 1 (by omega)]; unfold enV txR; rw [← erh, ← ert, ← exo]; rfl
              · rw [hq4 _ (by omega), hq4 _ (by omega)]; exact hcs k (by omega), by rw [hun, unE_step (by omega), if_neg (by omega)], hE3.step hEh4 (fun z hz e => by omega), rfl, rfl, rfl⟩
    · skip
      refine V_exitk [10] rfl (by simp only [proj, lk, reduceIte, Nat.reduceEqDiff]; rfl) ?_
      refine hK7 _ _ ?_; clear hK7
      refine V_sr T.mix (by kernel_rfl) (fun K23 hK23 => ?_)
      refine S_mv rfl ?_
      refine S_as rfl ?_
      refine S_as rfl ?_
      refine S_as rfl ?_
      refine S_nil (hK23 _ _ (V_keep [4, 5, 6] (by simp only [proj, lk, reduceIte, Nat.reduceEqDiff]; rfl) ?_)); clear hK23
      refine V_ret ?_
      refine hR _ _ (ret3 rfl rfl rfl rfl ?_)
      have hug : unG raw = (0, 0) := by rw [li_un0 (by rw [hl0]), ← hrn, hun, show rn - i = 0 by omega]; rfl
      rw [hug]
      have hLl := unL_len raw
      refine ⟨some ⟨h1.size, 0, none⟩, unL raw, by simp, by rw [hLl, ← hrn]; rfl, .inr ⟨h1.size, csk, rfl, hh1, bok, by rw [hLl, ← hrn]; exact hcsz, fun k hk => ?_⟩, hEk⟩
      rw [hLl] at hk
      rw [unL_at hk]
      exact hcs k (by omega)
end Go.Proofs.Qxb6500404aGreat
