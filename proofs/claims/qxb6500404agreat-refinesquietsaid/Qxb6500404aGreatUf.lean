import Derived.Test.Qxb6500404aGreatUe
import Derived.Test.Qxb6500404aGreatPd
import Derived.Test.Qxb6500404aGreatEr
set_option linter.unusedVariables false
set_option linter.unusedSimpArgs false
namespace Go.Proofs.Qxb6500404aGreat
open Go.Eng Go.Bits Go.Blk HufW Go.Arc

structure MW (h : Heap) (M P zz kk : Nat) : Prop where
  m : B h M #[.pointer (some ⟨P, 0, none⟩)] 63
  p : B h P #[.pointer (some ⟨zz, 0, none⟩), .pointer (some ⟨kk, 0, none⟩)] 81
theorem MW.ext {h h' : Heap} {M P zz kk : Nat} {S : Nat → Prop} (w : MW h M P zz kk) (he : Ext S h h') (h1 : ¬ S M) (h2 : ¬ S P) : MW h' M P zz kk := ⟨w.m.ext he h1, w.p.ext he h2⟩
theorem MW.new {h h' : Heap} {M P zz kk : Nat} (w : MW h M P zz kk) (he : Ext (fun _ => False) h h') : MW h' M P zz kk := w.ext he (fun f => f) (fun f => f)
theorem mk_rcd {lv : Int} {a : List Int} {x : En} : mkS a ++ mkS [((x.1.size : Nat) : Int)] ++ x.1 ++ mkS (t2 x.2.size) ++ mkS (t2 (pkF x.2 lv).size) ++ mkS (t2 (smF x.2)) ++ pkF x.2 lv = mkS (a ++ rcd lv x) := by
  unfold rcd
  simp only [mkS_app, mkS_bz, ByteArray.append_assoc]
theorem mk_end {lv : Int} {E : List En} : mkS (rcs lv E) ++ mkS (drL lv E E.length) ++ mkS [((E.length : Nat) : Int)] ++ mkS (t2 (rcs lv E).length) ++ ⟨#[90]⟩ = arF lv E := by
  unfold arF arL
  simp only [mkS_app]
  rfl
theorem ck_lt {Q : List En} {lv : Int} : ckF Q lv < 100 := by
  have key : ∀ L : List En, ckL L < 100 := fun L => by
    induction L with
    | nil => decide
    | cons x t ih => unfold ckL; split; (decide); (split; (decide); (exact ih))
  unfold ckF; split; (decide); (split; (decide); (exact key Q))
def rw6 (raw : ByteArray) (cell : Nat) : List Value := [.string (nmR raw cell), .int .i64 (((spR raw cell).size : Nat) : Int), .int .i64 (((spR raw cell).sum : Nat) : Int), .int .i64 (((spR raw cell).head + 6 : Nat) : Int), .int .i64 (((spR raw cell).to : Nat) : Int), .int .i64 (((spR raw cell).off : Nat) : Int)]
def rwL (raw : ByteArray) (dr : Nat) : Nat → List Value
  | 0 => []
  | n + 1 => rwL raw dr n ++ rw6 raw (dr + 2 * n)
theorem rwL_len (raw : ByteArray) (dr : Nat) : ∀ n, (rwL raw dr n).length = n * 6
  | 0 => rfl
  | n + 1 => by unfold rwL; rw [List.length_append, rwL_len raw dr n]; simp [rw6]; omega
theorem rwL_at {raw : ByteArray} {dr k : Nat} (hk : k < 6) : ∀ {n i : Nat}, i < n → (rwL raw dr n)[i * 6 + k]? = (rw6 raw (dr + 2 * i))[k]?
  | 0, i, h => absurd h (Nat.not_lt_zero _)
  | n + 1, i, h => by
    unfold rwL
    by_cases e : i = n
    · subst e
      rw [List.getElem?_append_right (by rw [rwL_len]; omega), rwL_len, Nat.add_sub_cancel_left]
    · rw [List.getElem?_append_left (by rw [rwL_len]; omega)]
      exact rwL_at hk (by omega)
def RV (h : Heap) (a : Option Addr) (raw : ByteArray) (n : Nat) : Prop := n = 0 ∨ ∃ b, a = some ⟨b, 0, none⟩ ∧ b < h.size ∧ ∀ i, i < n → cellH h ⟨b, i * 6, none⟩ = some (.string (nmR raw (cel raw i))) ∧ cellH h ⟨b, i * 6 + 1, none⟩ = some (.int .i64 (((spR raw (cel raw i)).size : Nat) : Int)) ∧ cellH h ⟨b, i * 6 + 2, none⟩ = some (.int .i64 (((spR raw (cel raw i)).sum : Nat) : Int)) ∧ cellH h ⟨b, i * 6 + 3, none⟩ = some (.int .i64 (((spR raw (cel raw i)).head + 6 : Nat) : Int)) ∧ cellH h ⟨b, i * 6 + 4, none⟩ = some (.int .i64 (((spR raw (cel raw i)).to : Nat) : Int)) ∧ cellH h ⟨b, i * 6 + 5, none⟩ = some (.int .i64 (((spR raw (cel raw i)).off : Nat) : Int))
theorem RV.get {h : Heap} {a : Option Addr} {raw : ByteArray} {n i : Nat} (v : RV h a raw n) (hi : i < n) : ∃ b, a = some ⟨b, 0, none⟩ ∧ b < h.size ∧ cellH h ⟨b, i * 6, none⟩ = some (.string (nmR raw (cel raw i))) ∧ cellH h ⟨b, i * 6 + 1, none⟩ = some (.int .i64 (((spR raw (cel raw i)).size : Nat) : Int)) ∧ cellH h ⟨b, i * 6 + 2, none⟩ = some (.int .i64 (((spR raw (cel raw i)).sum : Nat) : Int)) ∧ cellH h ⟨b, i * 6 + 3, none⟩ = some (.int .i64 (((spR raw (cel raw i)).head + 6 : Nat) : Int)) ∧ cellH h ⟨b, i * 6 + 4, none⟩ = some (.int .i64 (((spR raw (cel raw i)).to : Nat) : Int)) ∧ cellH h ⟨b, i * 6 + 5, none⟩ = some (.int .i64 (((spR raw (cel raw i)).off : Nat) : Int)) := by
  rcases v with rfl | ⟨b, e, hl, hc⟩
  · omega
  · exact ⟨b, e, hl, hc i hi⟩
theorem RV.ext {h h' : Heap} {a : Option Addr} {raw : ByteArray} {n : Nat} {S : Nat → Prop} (v : RV h a raw n) (he : Ext S h h') (hs : ∀ z, z < h.size → ¬ S z) : RV h' a raw n := by
  rcases v with rfl | ⟨b, e, hl, hc⟩
  · exact .inl rfl
  · have h9 := he.2 b hl (hs b hl)
    refine .inr ⟨b, e, by have := he.1; omega, fun i hi => ?_⟩
    rw [cell_same h9, cell_same h9, cell_same h9, cell_same h9, cell_same h9, cell_same h9]
    exact hc i hi
theorem own_rv {lo : Nat} {h : Heap} {a : Option Addr} {raw : ByteArray} {n cap : Nat} {t : TypeId} (ho : OwnR lo h a n cap (rwL raw (dirr raw) n) t 6) : RV h a raw n := by
  rcases ho with ⟨rfl, rfl, rfl, _⟩ | ⟨b, cs, e, h1, h2, h3, h4, h5, h6⟩
  · exact .inl rfl
  · refine .inr ⟨b, e, h2.lt, fun i hi => ?_⟩
    have key : ∀ k, k < 6 → cellH h ⟨b, i * 6 + k, none⟩ = (rw6 raw (cel raw i))[k]? := fun k hk => by
      rw [h2.cell, h6 _ (by rw [rwL_len]; omega), rwL_at hk hi]; rfl
    exact ⟨key 0 (by omega), key 1 (by omega), key 2 (by omega), key 3 (by omega), key 4 (by omega), key 5 (by omega)⟩
theorem li_14 {raw : ByteArray} (hz : ¬ 1200 < raw.size) (h : raw.size < 4 ∨ bAt raw (raw.size - 1) ≠ 90) : liE raw = (14, 0) := by
  rw [li_fr hz]
  have : tlF raw = (0, 0, 14, 0) := by
    unfold tlF
    by_cases c : raw.size < 4
    · rw [if_pos c]
    · rw [if_neg c, if_pos (by omega)]
  unfold frF; rw [this, if_pos (by simp)]
set_option maxHeartbeats 400000 in
theorem mtwo_spec (h : Heap) (n : Nat) (hn : n < 65536) :
    FC Tryz.prog 55 (#[.int .i64 (n : Int)] : Array Value) h fun rv h' => rv = .string (mkS (t2 n)) ∧ Ext (fun _ => False) h h' := by
  refine FC_of [(0, .int .i64 (n : Int))] Tryz.func55 rfl Tryz.ntmps55 (by simp) rfl (fun R hR => ?_)
  refine V_sr T.mix (by kernel_rfl) (fun K1 hK1 => ?_)
  refine S_as rfl ?_
  refine S_nil (hK1 _ _ (V_keep [0] (by simp only [proj, lk, reduceIte, Nat.reduceEqDiff]; rfl) ?_)); clear hK1
  refine V_sr T.mix (by kernel_rfl) (fun K2 hK2 => ?_)
  refine S_mv rfl ?_
  refine S_nand n 255 (n % 256) rfl rfl rfl rfl (and255 n) (BitW.top_i64 (by omega)) (BitW.top_i64 (by decide)) ?_
  refine S_cvN (n % 256) T.us3 T.in5 rfl rfl (top_u8 (by omega)) ?_
  refine S_mv rfl ?_
  refine S_nshr n 8 (n / 256) rfl rfl rfl rfl (by rw [show (256 : Nat) = 2 ^ 8 from rfl]) (by decide) ?_
  refine S_nand (n / 256) 255 (n / 256 % 256) rfl rfl rfl rfl (and255 _) (BitW.top_i64 (by omega)) (BitW.top_i64 (by decide)) ?_
  refine S_cvN (n / 256 % 256) T.us3 T.in5 rfl rfl (top_u8 (by omega)) ?_
  refine S_bs T.ei55 rfl (by decide) (by decide) (T.bs55_2_0_1 _ _) ?_
  generalize hh : Array.push h _ = h1
  have b1 : B h1 h.size #[.int .u8 ((n % 256 : Nat) : Int), .int .u8 ((n / 256 % 256 : Nat) : Int)] 5 := by rw [← hh]; exact B.new _ _ _
  have hEh1 : Ext (fun _ => False) h h1 := by rw [← hh]; exact Ext.push _ _ _
  clear hh
  refine S_str (bs := t2 n) T.kd55 T.kd9 T.in9 rfl (by simp only [srcV, Nat.mul_one]; exact b1.all rfl) ?_
  refine S_as rfl ?_
  refine S_nil (hK2 _ _ (V_keep [2] (by simp only [proj, lk, reduceIte, Nat.reduceEqDiff]; rfl) ?_)); clear hK2
  refine V_ret ?_
  refine hR _ _ (ret1 rfl rfl ?_)
  exact ⟨rfl, hEh1⟩
set_option maxHeartbeats 400000 in
theorem num_spec (h : Heap) (raw : ByteArray) (i : Nat) (hi : i + 2 ≤ raw.size) (hz : raw.size ≤ 1200) :
    FC Tryz.prog 80 (#[.string raw, .int .i64 (i : Int)] : Array Value) h fun rv h' => rv = .int .i64 ((w2 raw i : Nat) : Int) ∧ h = h' := by
  have hb0 := bAt_lt raw i
  have hb1 := bAt_lt raw (i + 1)
  refine FC_of [(0, .string raw), (1, .int .i64 (i : Int))] Tryz.func80 rfl Tryz.ntmps80 (by simp) rfl (fun R hR => ?_)
  refine V_sr T.mix (by kernel_rfl) (fun K1 hK1 => ?_)
  refine S_as rfl ?_
  refine S_nil (hK1 _ _ (V_keep [0, 1] (by simp only [proj, lk, reduceIte, Nat.reduceEqDiff]; rfl) ?_)); clear hK1
  refine V_sr T.mix (by kernel_rfl) (fun K2 hK2 => ?_)
  refine S_mv rfl ?_
  refine S_mv rfl ?_
  refine S_si T.kd9 rfl rfl (by omega) (by omega) ?_
  rw [Int.toNat_natCast]
  obtain ⟨b0, e0⟩ : ∃ x, x = bAt raw i := ⟨_, rfl⟩
  rw [← e0] at hb0 ⊢
  first | refine S_cvi T.us5 T.in3 rfl (by omega) (by omega) ?_ | refine S_cv T.us5 T.in3 rfl ?_
  refine S_mv rfl ?_
  refine S_mv rfl ?_
  refine S_addN (i + 1) rfl rfl (by omega) (by omega) ?_
  refine S_si T.kd9 rfl rfl (by omega) (by omega) ?_
  rw [Int.toNat_natCast]
  obtain ⟨b1, e1⟩ : ∃ x, x = bAt raw (i + 1) := ⟨_, rfl⟩
  rw [← e1] at hb1 ⊢
  first | refine S_cvi T.us5 T.in3 rfl (by omega) (by omega) ?_ | refine S_cv T.us5 T.in3 rfl ?_
  refine S_nshl b1 8 (b1 * 256) rfl rfl rfl rfl (by rw [show (256 : Nat) = 2 ^ 8 from rfl]) (by decide) (BitW.top_i64 (by omega)) ?_
  refine S_addN (b0 + b1 * 256) rfl rfl (by omega) (by omega) ?_
  refine S_as rfl ?_
  refine S_nil (hK2 _ _ (V_keep [4] (by simp only [proj, lk, reduceIte, Nat.reduceEqDiff]; rfl) ?_)); clear hK2
  refine V_ret ?_
  refine hR _ _ (ret1 rfl rfl ?_)
  exact ⟨by unfold w2; rw [← e0, ← e1], rfl⟩
set_option maxHeartbeats 800000 in
theorem checklist_spec (h : Heap) (lo : Nat) (a : Option Addr) (cp : Nat) (Q : List En) (ev : EV lo h a Q) (hQ : Q.length ≤ 5) (lv : Int) :
    FC Tryz.prog 53 (#[.slice a Q.length cp, .int .i64 lv] : Array Value) h fun rv h' => rv = .int .i64 ((ckF Q lv : Nat) : Int) ∧ h = h' := by
  refine FC_of [(0, .slice a Q.length cp), (1, .int .i64 lv)] Tryz.func53 rfl Tryz.ntmps53 (by simp) rfl (fun R hR => ?_)
  refine V_sr T.mix (by kernel_rfl) (fun K1 hK1 => ?_)
  refine S_as rfl ?_
  refine S_nil (hK1 _ _ (V_keep [0, 1] (by simp only [proj, lk, reduceIte, Nat.reduceEqDiff]; rfl) ?_)); clear hK1
  refine V_seq (fun K2 hK2 => ?_)
  refine V_sr T.mix (by kernel_rfl) (fun K3 hK3 => ?_)
  refine S_mv rfl ?_
  refine S_lenl T.el37 rfl ?_
  refine S_bin rfl rfl rfl ?_
  refine S_nil (hK3 _ _ (V_keep [0, 1, 8] (by simp only [proj, lk, reduceIte, Nat.reduceEqDiff]; rfl) ?_)); clear hK3
  refine V_condp rfl (fun c23 => ?_) (fun c23 => ?_)
  · skip
    refine V_sr T.mix (by kernel_rfl) (fun K4 hK4 => ?_)
    refine S_as rfl ?_
    refine S_nil (hK4 _ _ (V_keep [4] (by simp only [proj, lk, reduceIte, Nat.reduceEqDiff]; rfl) ?_)); clear hK4
    refine V_ret ?_
    refine hR _ _ (ret1 rfl rfl ?_)
    have hv : ckF Q lv = 17 := by unfold ckF; rw [if_pos (by omega)]
    exact ⟨by rw [hv]; rfl, rfl⟩
  · skip
    refine V_skipk [0, 1] (by simp only [proj, lk, reduceIte, Nat.reduceEqDiff]; rfl) ?_
    refine hK2 _ _ ?_; clear hK2
    refine V_seq (fun K5 hK5 => ?_)
    refine V_sr T.mix (by kernel_rfl) (fun K6 hK6 => ?_)
    refine S_mv rfl ?_
    refine S_bin rfl rfl rfl ?_
    refine S_mv rfl ?_
    refine S_dec (fun g26 => ?_) (fun g26 => ?_)
    · skip
      refine S_gf rfl ?_
      refine S_gf rfl ?_
      refine S_pt rfl rfl ?_
      refine S_nil (hK6 _ _ (V_keep [0, 14] (by simp only [proj, lk, reduceIte, Nat.reduceEqDiff]; rfl) ?_)); clear hK6
      refine V_condt rfl ?_
      refine V_sr T.mix (by kernel_rfl) (fun K7 hK7 => ?_)
      refine S_as rfl ?_
      refine S_nil (hK7 _ _ (V_keep [4] (by simp only [proj, lk, reduceIte, Nat.reduceEqDiff]; rfl) ?_)); clear hK7
      refine V_ret ?_
      refine hR _ _ (ret1 rfl rfl ?_)
      have hv : ckF Q lv = 13 := by unfold ckF; rw [if_neg (by omega), if_pos (by omega)]
      exact ⟨by rw [hv]; rfl, rfl⟩
    · skip
      refine S_gt rfl ?_
      refine S_mv rfl ?_
      refine S_gt rfl ?_
      refine S_bin rfl rfl rfl ?_
      refine S_pf rfl rfl ?_
      refine S_nil (hK6 _ _ (V_keep [0, 14] (by simp only [proj, lk, reduceIte, Nat.reduceEqDiff]; rfl) ?_)); clear hK6
      refine V_condp rfl (fun c26 => ?_) (fun c26 => ?_)
      · skip
        refine V_sr T.mix (by kernel_rfl) (fun K8 hK8 => ?_)
        refine S_as rfl ?_
        refine S_nil (hK8 _ _ (V_keep [4] (by simp only [proj, lk, reduceIte, Nat.reduceEqDiff]; rfl) ?_)); clear hK8
        refine V_ret ?_
        refine hR _ _ (ret1 rfl rfl ?_)
        have hv : ckF Q lv = 13 := by unfold ckF; rw [if_neg (by omega), if_pos (by omega)]
        exact ⟨by rw [hv]; rfl, rfl⟩
      · skip
        refine V_skipk [0] (by simp only [proj, lk, reduceIte, Nat.reduceEqDiff]; rfl) ?_
        refine hK5 _ _ ?_; clear hK5
        refine V_seq (fun K9 hK9 => ?_)
        refine V_sr T.mix (by kernel_rfl) (fun K10 hK10 => ?_)
        refine S_as rfl ?_
        refine S_nil (hK10 _ _ (V_keep [0, 5] (by simp only [proj, lk, reduceIte, Nat.reduceEqDiff]; rfl) ?_)); clear hK10
        refine V_block ?_
        refine V_loop (fun m l h' => ∃ (i : Nat), (i ≤ Q.length) ∧ (ckL Q = ckL (Q.drop i)) ∧ m = Q.length - i ∧ l = [(0, .slice a Q.length cp), (5, .int .i64 (i : Int))] ∧ h = h') _ ⟨0, Nat.zero_le _, by rw [List.drop_zero], rfl, rfl, rfl⟩ ?_
        rintro m l h' ⟨i, hi, hq, rfl, rfl, rfl⟩ K11 hK11
        refine V_seq (fun K12 hK12 => ?_)
        refine V_sr T.mix (by kernel_rfl) (fun K13 hK13 => ?_)
        refine S_mv rfl ?_
        refine S_mv rfl ?_
        refine S_lenl T.el37 rfl ?_
        refine S_bin rfl rfl rfl ?_
        refine S_nil (hK13 _ _ (V_keep [0, 5, 18] (by simp only [proj, lk, reduceIte, Nat.reduceEqDiff]; rfl) ?_)); clear hK13
        refine V_condp rfl (fun c29 => ?_) (fun c29 => ?_)
        · skip
          refine V_skipk [0, 5] (by simp only [proj, lk, reduceIte, Nat.reduceEqDiff]; rfl) ?_
          refine hK12 _ _ ?_; clear hK12
          refine V_seq (fun K14 hK14 => ?_)
          refine V_block ?_
          refine V_seq (fun K15 hK15 => ?_)
          refine V_sr T.mix (by kernel_rfl) (fun K16 hK16 => ?_)
          refine S_mv rfl ?_
          refine S_mv rfl ?_
          obtain ⟨b, rfl, hb1, hb2, hc⟩ := ev.get (i := i) (by omega)
          have n0 := (hc i (by omega)).1
          have n1 := (hc i (by omega)).2
          obtain ⟨nm, enm⟩ : ∃ x, x = (ga Q i).1 := ⟨_, rfl⟩
          obtain ⟨dt, edt⟩ : ∃ x, x = (ga Q i).2 := ⟨_, rfl⟩
          rw [← enm] at n0
          rw [← edt] at n1
          refine S_ix T.el37 rfl rfl (by omega) (by omega) ?_
          rw [Nat.zero_add, Int.toNat_natCast]
          first | refine S_fa0 T.f104_0 rfl ?_ | refine S_fa T.f104_0 rfl ?_
          refine S_ldK T.ag9 rfl (fun K' hK' => ?_)
          simp (disch := omega) only [n0, n1, oP_some, Nat.add_zero]
          refine hK' _ ?_; clear hK' K'
          refine S_lens T.kd9 rfl ?_
          refine S_bin rfl rfl rfl ?_
          refine S_mv rfl ?_
          refine S_dec (fun g30 => ?_) (fun g30 => ?_)
          · skip
            refine S_gf rfl ?_
            refine S_gf rfl ?_
            refine S_gf rfl ?_
            refine S_gf rfl ?_
            refine S_gf rfl ?_
            refine S_gf rfl ?_
            refine S_gf rfl ?_
            refine S_pt rfl rfl ?_
            refine S_nil (hK16 _ _ (V_keep [0, 5, 36] (by simp only [proj, lk, reduceIte, Nat.reduceEqDiff]; rfl) ?_)); clear hK16
            refine V_condt rfl ?_
            refine V_sr T.mix (by kernel_rfl) (fun K17 hK17 => ?_)
            refine S_as rfl ?_
            refine S_nil (hK17 _ _ (V_keep [4] (by simp only [proj, lk, reduceIte, Nat.reduceEqDiff]; rfl) ?_)); clear hK17
            refine V_ret ?_
            refine hR _ _ (ret1 rfl rfl ?_)
            have hv : ckF Q lv = 16 := by unfold ckF; rw [if_neg (by omega), if_neg (by omega), hq, ckL_step (by omega), ← enm, if_pos (by omega)]
            exact ⟨by rw [hv]; rfl, rfl⟩
          · skip
            refine S_gt rfl ?_
            refine S_mv rfl ?_
            refine S_gt rfl ?_
            refine S_mv rfl ?_
            refine S_gt rfl ?_
            refine S_ix T.el37 rfl rfl (by omega) (by omega) ?_
            rw [Nat.zero_add, Int.toNat_natCast]
            refine S_gt rfl ?_
            first | refine S_fa0 T.f104_0 rfl ?_ | refine S_fa T.f104_0 rfl ?_
            refine S_gt rfl ?_
            refine S_ldK T.ag9 rfl (fun K' hK' => ?_)
            simp (disch := omega) only [n0, n1, oP_some, Nat.add_zero]
            refine hK' _ ?_; clear hK' K'
            refine S_gt rfl ?_
            refine S_lens T.kd9 rfl ?_
            refine S_gt rfl ?_
            refine S_bin rfl rfl rfl ?_
            refine S_pf rfl rfl ?_
            refine S_nil (hK16 _ _ (V_keep [0, 5, 36] (by simp only [proj, lk, reduceIte, Nat.reduceEqDiff]; rfl) ?_)); clear hK16
            refine V_condp rfl (fun c30 => ?_) (fun c30 => ?_)
            · skip
              refine V_sr T.mix (by kernel_rfl) (fun K18 hK18 => ?_)
              refine S_as rfl ?_
              refine S_nil (hK18 _ _ (V_keep [4] (by simp only [proj, lk, reduceIte, Nat.reduceEqDiff]; rfl) ?_)); clear hK18
              refine V_ret ?_
              refine hR _ _ (ret1 rfl rfl ?_)
              have hv : ckF Q lv = 16 := by unfold ckF; rw [if_neg (by omega), if_neg (by omega), hq, ckL_step (by omega), ← enm, if_pos (by omega)]
              exact ⟨by rw [hv]; rfl, rfl⟩
            · skip
              refine V_skipk [0, 5] (by simp only [proj, lk, reduceIte, Nat.reduceEqDiff]; rfl) ?_
              refine hK15 _ _ ?_; clear hK15
              refine V_sr T.mix (by kernel_rfl) (fun K19 hK19 => ?_)
              refine S_mv rfl ?_
              refine S_mv rfl ?_
              refine S_ix T.el37 rfl rfl (by omega) (by omega) ?_
              rw [Nat.zero_add, Int.toNat_natCast]
              first | refine S_fa0 T.f104_1 rfl ?_ | refine S_fa T.f104_1 rfl ?_
              refine S_ldK T.ag9 rfl (fun K' hK' => ?_)
              simp (disch := omega) only [n0, n1, oP_some, Nat.add_zero]
              refine hK' _ ?_; clear hK' K'
              refine S_lens T.kd9 rfl ?_
              refine S_bin rfl rfl rfl ?_
              refine S_nil (hK19 _ _ (V_keep [0, 5, 43] (by simp only [proj, lk, reduceIte, Nat.reduceEqDiff]; rfl) ?_)); clear hK19
              refine V_condp rfl (fun c33 => ?_) (fun c33 => ?_)
              · skip
                refine V_sr T.mix (by kernel_rfl) (fun K20 hK20 => ?_)
                refine S_as rfl ?_
                refine S_nil (hK20 _ _ (V_keep [4] (by simp only [proj, lk, reduceIte, Nat.reduceEqDiff]; rfl) ?_)); clear hK20
                refine V_ret ?_
                refine hR _ _ (ret1 rfl rfl ?_)
                have hv : ckF Q lv = 1 := by unfold ckF; rw [if_neg (by omega), if_neg (by omega), hq, ckL_step (by omega), ← enm, ← edt, if_neg (by omega), if_pos (by omega)]
                exact ⟨by rw [hv]; rfl, rfl⟩
              · skip
                refine V_skipk [0, 5] (by simp only [proj, lk, reduceIte, Nat.reduceEqDiff]; rfl) ?_
                refine hK14 _ _ ?_; clear hK14
                refine V_reg T.mix (by kernel_rfl) ?_
                refine S_mv rfl ?_
                refine S_addN (i + 1) rfl rfl (by omega) (by omega) ?_
                refine S_as rfl ?_
                refine S_nilk [0, 5] (by simp only [proj, lk, reduceIte, Nat.reduceEqDiff]; rfl) ?_
                exact hK11 _ _ ⟨_, by omega, i + 1, by omega, by rw [hq, ckL_step (by omega), ← enm, ← edt, if_neg (by omega), if_neg (by omega)], rfl, rfl, rfl⟩
        · skip
          refine V_exitk [] rfl (by simp only [proj, lk, reduceIte, Nat.reduceEqDiff]; rfl) ?_
          refine hK9 _ _ ?_; clear hK9
          refine V_sr T.mix (by kernel_rfl) (fun K21 hK21 => ?_)
          refine S_as rfl ?_
          refine S_nil (hK21 _ _ (V_keep [4] (by simp only [proj, lk, reduceIte, Nat.reduceEqDiff]; rfl) ?_)); clear hK21
          refine V_ret ?_
          refine hR _ _ (ret1 rfl rfl ?_)
          have hv : ckF Q lv = 0 := by unfold ckF; rw [if_neg (by omega), if_neg (by omega), hq, ckL_end (by omega)]
          exact ⟨by rw [hv]; rfl, rfl⟩
set_option maxHeartbeats 400000 in
theorem manew_spec (h : Heap) :
    FC Tryz.prog 10 (#[] : Array Value) h fun rv h' => ∃ M P zz kk, rv = .pointer (some ⟨M, 0, none⟩) ∧ MW h' M P zz kk ∧ h.size ≤ P ∧ P < M ∧ M < h'.size ∧ Ext (fun _ => False) h h' := by
  refine FC_of [] Tryz.func10 rfl Tryz.ntmps10 (by simp) rfl (fun R hR => ?_)
  refine V_sr T.mix (by kernel_rfl) (fun K1 hK1 => ?_)
  refine S_as rfl ?_
  refine S_nil (hK1 _ _ (V_keep [] (by simp only [proj, lk, reduceIte, Nat.reduceEqDiff]; rfl) ?_)); clear hK1
  refine V_sr T.mix (by kernel_rfl) (fun K2 hK2 => ?_)
  refine S_call T.hb18 rfl ?_
  refine FC.mono (mbnew_spec h) ?_
  rintro v' h1 ⟨rfl, ⟨zz, kk, bp⟩, hE1⟩
  have hl := bp.lt
  refine S_bld rfl (T.bld63_0 _) ?_
  refine S_boxA rfl ?_
  generalize hh : Array.push h1 _ = h2
  have b2 : B h2 h1.size #[.pointer (some ⟨h.size, 0, none⟩)] 63 := by rw [← hh]; exact B.new _ _ _
  have hEh2 : Ext (fun _ => False) h1 h2 := by rw [← hh]; exact Ext.push _ _ _
  clear hh
  refine S_as rfl ?_
  refine S_nil (hK2 _ _ (V_keep [0] (by simp only [proj, lk, reduceIte, Nat.reduceEqDiff]; rfl) ?_)); clear hK2
  refine V_ret ?_
  refine hR _ _ (ret1 rfl rfl ?_)
  exact ⟨h1.size, h.size, zz, kk, rfl, ⟨b2, bp.ext hEh2 (fun f => f)⟩, Nat.le_refl _, hl, b2.lt, hE1.trans hEh2⟩
set_option maxHeartbeats 3200000 in
theorem mapack_spec (h : Heap) (M P zz kk : Nat) (mw : MW h M P zz kk) (lo : Nat) (a : Option Addr) (cp : Nat) (Q : List En) (ev : EV lo h a Q) (hQ : Q.length ≤ 5) (lv : Int) :
    FC Tryz.prog 31 (#[.pointer (some ⟨M, 0, none⟩), .slice a Q.length cp, .int .i64 lv] : Array Value) h fun rv h' => rv = .tuple #[.string (apT Q lv), .int .i64 ((ckF Q lv : Nat) : Int)] ∧ Ext (fun _ => False) h h' := by
  obtain ⟨ce, ece⟩ : ∃ x, x = ckF Q lv := ⟨_, rfl⟩
  refine FC_of [(0, .pointer (some ⟨M, 0, none⟩)), (1, .slice a Q.length cp), (2, .int .i64 lv)] Tryz.func31 rfl Tryz.ntmps31 (by simp) rfl (fun R hR => ?_)
  refine V_sr T.mix (by kernel_rfl) (fun K1 hK1 => ?_)
  refine S_as rfl ?_
  refine S_as rfl ?_
  refine S_nil (hK1 _ _ (V_keep [0, 1, 2] (by simp only [proj, lk, reduceIte, Nat.reduceEqDiff]; rfl) ?_)); clear hK1
  refine V_sr T.mix (by kernel_rfl) (fun K2 hK2 => ?_)
  refine S_mv rfl ?_
  refine S_mv rfl ?_
  refine S_call T.hb53 rfl ?_
  have hcl := checklist_spec h lo a cp Q ev hQ lv
  rw [← ece] at hcl
  refine FC.mono hcl ?_
  rintro v' h' ⟨rfl, rfl⟩
  refine S_as rfl ?_
  refine S_nil (hK2 _ _ (V_keep [0, 1, 2, 8] (by simp only [proj, lk, reduceIte, Nat.reduceEqDiff]; rfl) ?_)); clear hK2
  refine V_seq (fun K3 hK3 => ?_)
  refine V_sr T.mix (by kernel_rfl) (fun K4 hK4 => ?_)
  refine S_mv rfl ?_
  refine S_bin rfl rfl rfl ?_
  refine S_nil (hK4 _ _ (V_keep [0, 1, 2, 8, 23] (by simp only [proj, lk, reduceIte, Nat.reduceEqDiff]; rfl) ?_)); clear hK4
  refine V_condp rfl (fun c42 => ?_) (fun c42 => ?_)
  · skip
    refine V_sr T.mix (by kernel_rfl) (fun K5 hK5 => ?_)
    refine S_mv rfl ?_
    refine S_as rfl ?_
    refine S_as rfl ?_
    refine S_nil (hK5 _ _ (V_keep [6, 7] (by simp only [proj, lk, reduceIte, Nat.reduceEqDiff]; rfl) ?_)); clear hK5
    refine V_ret ?_
    refine hR _ _ (ret2 rfl rfl rfl ?_)
    exact ⟨by unfold apT; rw [← ece, if_neg (by omega)], Ext.refl _ _⟩
  · skip
    have hcf : ckF Q lv = 0 := by omega
    obtain ⟨q4, l0, l2, hck⟩ := ckF_ok hcf
    refine V_skipk [0, 1, 2] (by simp only [proj, lk, reduceIte, Nat.reduceEqDiff]; rfl) ?_
    refine hK3 _ _ ?_; clear hK3
    refine V_sr T.mix (by kernel_rfl) (fun K6 hK6 => ?_)
    refine S_as rfl ?_
    refine S_nil (hK6 _ _ (V_keep [0, 1, 2, 9] (by simp only [proj, lk, reduceIte, Nat.reduceEqDiff]; rfl) ?_)); clear hK6
    refine V_sr T.mix (by kernel_rfl) (fun K7 hK7 => ?_)
    refine S_as rfl ?_
    refine S_nil (hK7 _ _ (V_keep [0, 1, 2, 9, 10] (by simp only [proj, lk, reduceIte, Nat.reduceEqDiff]; rfl) ?_)); clear hK7
    refine V_seq (fun K8 hK8 => ?_)
    refine V_sr T.mix (by kernel_rfl) (fun K9 hK9 => ?_)
    refine S_as rfl ?_
    refine S_nil (hK9 _ _ (V_keep [0, 1, 2, 9, 10, 11] (by simp only [proj, lk, reduceIte, Nat.reduceEqDiff]; rfl) ?_)); clear hK9
    refine V_block ?_
    refine V_loop (fun m l h' => ∃ (i : Nat) (hk : Heap) (tx dx : ByteArray), (i ≤ Q.length) ∧ (MW hk M P zz kk) ∧ (EV lo hk a Q) ∧ (tx = mkS (rcs lv (Q.take i))) ∧ (dx = mkS (drL lv Q i)) ∧ (tx.size = ofs lv Q i) ∧ (dx.size = 2 * i) ∧ (Ext (fun _ => False) h hk) ∧ m = Q.length - i ∧ l = [(0, .pointer (some ⟨M, 0, none⟩)), (1, .slice a Q.length cp), (2, .int .i64 lv), (9, .string tx), (10, .string dx), (11, .int .i64 (i : Int))] ∧ hk = h') _ ⟨0, h, ⟨#[]⟩, ⟨#[]⟩, Nat.zero_le _, mw, ev, rfl, rfl, rfl, rfl, Ext.refl _ _, rfl, rfl, rfl⟩ ?_
    rintro m l h' ⟨i, hk, tx, dx, hi, mwk, evk, etx, edx, hts, hds, hEk, rfl, rfl, rfl⟩ K10 hK10
    have m0 : cellH hk ⟨M, 0, none⟩ = some (.pointer (some ⟨P, 0, none⟩)) := mwk.m.cell 0
    have hto := ofs_le (lv := lv) hck i (by omega)
    refine V_seq (fun K11 hK11 => ?_)
    refine V_sr T.mix (by kernel_rfl) (fun K12 hK12 => ?_)
    refine S_mv rfl ?_
    refine S_mv rfl ?_
    refine S_lenl T.el37 rfl ?_
    refine S_bin rfl rfl rfl ?_
    refine S_nil (hK12 _ _ (V_keep [0, 1, 2, 9, 10, 11, 28] (by simp only [proj, lk, reduceIte, Nat.reduceEqDiff]; rfl) ?_)); clear hK12
    refine V_condp rfl (fun c47 => ?_) (fun c47 => ?_)
    · skip
      obtain ⟨b, rfl, hb1, hb2, hc⟩ := evk.get (i := i) (by omega)
      have n0 := (hc i (by omega)).1
      have n1 := (hc i (by omega)).2
      obtain ⟨nm, enm⟩ : ∃ x, x = (ga Q i).1 := ⟨_, rfl⟩
      obtain ⟨dt, edt⟩ : ∃ x, x = (ga Q i).2 := ⟨_, rfl⟩
      rw [← enm] at n0
      rw [← edt] at n1
      have hqi := ckL_at hck _ (ga_mem (E := Q) (i := i) (by omega))
      rw [← enm, ← edt] at hqi
      obtain ⟨hq1, hq2, hq3⟩ := hqi
      have hof := ofs_le (lv := lv) hck i (by omega)
      refine V_skipk [0, 1, 2, 9, 10, 11] (by simp only [proj, lk, reduceIte, Nat.reduceEqDiff]; rfl) ?_
      refine hK11 _ _ ?_; clear hK11
      refine V_seq (fun K13 hK13 => ?_)
      refine V_block ?_
      refine V_sr T.mix (by kernel_rfl) (fun K14 hK14 => ?_)
      refine S_mv rfl ?_
      refine S_nc rfl ?_
      first | refine S_fa0 T.f63_0 rfl ?_ | refine S_fa T.f63_0 rfl ?_
      refine S_ldK T.ag60 rfl (fun K' hK' => ?_)
      simp (disch := omega) only [m0, n0, n1, oP_some, Nat.add_zero]
      refine hK' _ ?_; clear hK' K'
      refine S_mv rfl ?_
      refine S_mv rfl ?_
      refine S_ix T.el37 rfl rfl (by omega) (by omega) ?_
      rw [Nat.zero_add, Int.toNat_natCast]
      first | refine S_fa0 T.f104_1 rfl ?_ | refine S_fa T.f104_1 rfl ?_
      refine S_ldK T.ag9 rfl (fun K' hK' => ?_)
      simp (disch := omega) only [m0, n0, n1, oP_some, Nat.add_zero]
      refine hK' _ ?_; clear hK' K'
      refine S_mv rfl ?_
      refine S_call T.hb54 rfl ?_
      obtain ⟨pe, pt⟩ := pk_0 (u := dt) hq3 l0 l2
      have hpk := mpack_spec hk P zz kk mwk.p dt lv
      rw [pt, pe] at hpk
      refine FC.mono hpk ?_
      rintro v' h1 ⟨rfl, hE1⟩
      have hpz := (pk_size (u := dt) lv).2
      obtain ⟨px, epx⟩ : ∃ x, x = pkF dt lv := ⟨_, rfl⟩
      rw [← epx] at hpz ⊢
      have hsm := smL_lt (bz dt)
      refine S_mv rfl ?_
      refine S_ex rfl rfl ?_
      refine S_ex rfl rfl ?_
      refine S_as rfl ?_
      refine S_as rfl ?_
      refine S_nil (hK14 _ _ (V_keep [0, 1, 2, 9, 10, 11, 12] (by simp only [proj, lk, reduceIte, Nat.reduceEqDiff]; rfl) ?_)); clear hK14
      refine V_sr T.mix (by kernel_rfl) (fun K15 hK15 => ?_)
      refine S_mv rfl ?_
      refine S_mv rfl ?_
      refine S_lens T.kd9 rfl ?_
      refine S_call T.hb55 rfl ?_
      refine FC.mono (mtwo_spec h1 tx.size (by omega)) ?_
      rintro v' h2 ⟨rfl, hEh2⟩
      have ev2 := (evk.new hE1).new hEh2
      clear n0 n1 hc
      obtain ⟨b9, hb9, _, _, hc⟩ := ev2.get (i := i) (by omega)
      cases hb9
      have n0 := (hc i (by omega)).1
      have n1 := (hc i (by omega)).2
      rw [← enm] at n0
      rw [← edt] at n1
      refine S_bin rfl rfl (strV_add (by rw [mkS_size, t2_len]; omega)) ?_
      refine S_as rfl ?_
      refine S_nil (hK15 _ _ (V_keep [0, 1, 2, 9, 10, 11, 12] (by simp only [proj, lk, reduceIte, Nat.reduceEqDiff]; rfl) ?_)); clear hK15
      refine V_sr T.mix (by kernel_rfl) (fun K16 hK16 => ?_)
      refine S_mv rfl ?_
      refine S_mv rfl ?_
      refine S_ix T.el37 rfl rfl (by omega) (by omega) ?_
      rw [Nat.zero_add, Int.toNat_natCast]
      first | refine S_fa0 T.f104_1 rfl ?_ | refine S_fa T.f104_1 rfl ?_
      refine S_ldK T.ag9 rfl (fun K' hK' => ?_)
      simp (disch := omega) only [m0, n0, n1, oP_some, Nat.add_zero]
      refine hK' _ ?_; clear hK' K'
      refine S_lens T.kd9 rfl ?_
      refine S_call T.hb55 rfl ?_
      refine FC.mono (mtwo_spec h2 dt.size (by omega)) ?_
      rintro v' h3 ⟨rfl, hEh3⟩
      refine S_as rfl ?_
      refine S_nil (hK16 _ _ (V_keep [0, 1, 2, 9, 10, 11, 12, 14] (by simp only [proj, lk, reduceIte, Nat.reduceEqDiff]; rfl) ?_)); clear hK16
      refine V_sr T.mix (by kernel_rfl) (fun K17 hK17 => ?_)
      refine S_mv rfl ?_
      refine S_lens T.kd9 rfl ?_
      refine S_call T.hb55 rfl ?_
      refine FC.mono (mtwo_spec h3 px.size (by omega)) ?_
      rintro v' h4 ⟨rfl, hEh4⟩
      have ev4 := (ev2.new hEh3).new hEh4
      clear n0 n1 hc
      obtain ⟨b9, hb9, _, _, hc⟩ := ev4.get (i := i) (by omega)
      cases hb9
      have n0 := (hc i (by omega)).1
      have n1 := (hc i (by omega)).2
      rw [← enm] at n0
      rw [← edt] at n1
      refine S_as rfl ?_
      refine S_nil (hK17 _ _ (V_keep [0, 1, 2, 9, 10, 11, 12, 14, 15] (by simp only [proj, lk, reduceIte, Nat.reduceEqDiff]; rfl) ?_)); clear hK17
      refine V_sr T.mix (by kernel_rfl) (fun K18 hK18 => ?_)
      refine S_mv rfl ?_
      refine S_mv rfl ?_
      refine S_ix T.el37 rfl rfl (by omega) (by omega) ?_
      rw [Nat.zero_add, Int.toNat_natCast]
      first | refine S_fa0 T.f104_1 rfl ?_ | refine S_fa T.f104_1 rfl ?_
      refine S_ldK T.ag9 rfl (fun K' hK' => ?_)
      simp (disch := omega) only [m0, n0, n1, oP_some, Nat.add_zero]
      refine hK' _ ?_; clear hK' K'
      refine S_call T.hb56 rfl ?_
      refine FC.mono (sum_spec h4 dt (by omega)) ?_
      rintro v' h' ⟨rfl, rfl⟩
      refine S_as rfl ?_
      refine S_nil (hK18 _ _ (V_keep [0, 1, 2, 9, 10, 11, 12, 14, 15, 16] (by simp only [proj, lk, reduceIte, Nat.reduceEqDiff]; rfl) ?_)); clear hK18
      refine V_sr T.mix (by kernel_rfl) (fun K19 hK19 => ?_)
      refine S_mv rfl ?_
      refine S_call T.hb55 rfl ?_
      refine FC.mono (mtwo_spec h4 (smF dt) hsm) ?_
      rintro v' h5 ⟨rfl, hEh5⟩
      have ev5 := ev4.new hEh5
      clear n0 n1 hc
      obtain ⟨b9, hb9, _, _, hc⟩ := ev5.get (i := i) (by omega)
      cases hb9
      have n0 := (hc i (by omega)).1
      have n1 := (hc i (by omega)).2
      rw [← enm] at n0
      rw [← edt] at n1
      refine S_as rfl ?_
      refine S_nil (hK19 _ _ (V_keep [0, 1, 2, 9, 10, 11, 12, 14, 15, 17] (by simp only [proj, lk, reduceIte, Nat.reduceEqDiff]; rfl) ?_)); clear hK19
      refine V_regO #[0, 1, 2, 3, 4, 5, 6, 7, 13, 14, 15, 8, 9, 10, 11, 12, 16, 17, 18, 19, 20, 21, 22, 23, 24, 25] [0, 1, 2, 3, 4, 5, 6, 7, 11, 12, 13, 14, 15, 8, 9, 10, 16, 17, 18, 19, 20, 21, 22, 23, 24, 25] T.mix (by kernel_rfl) ?_
      refine S_mv rfl ?_
      refine S_mv rfl ?_
      refine S_mv rfl ?_
      refine S_ix T.el37 rfl rfl (by omega) (by omega) ?_
      rw [Nat.zero_add, Int.toNat_natCast]
      first | refine S_fa0 T.f104_0 rfl ?_ | refine S_fa T.f104_0 rfl ?_
      refine S_ldK T.ag9 rfl (fun K' hK' => ?_)
      simp (disch := omega) only [m0, n0, n1, oP_some, Nat.add_zero]
      refine hK' _ ?_; clear hK' K'
      refine S_lens T.kd9 rfl ?_
      refine S_cvN nm.size T.us3 T.in5 rfl rfl (top_u8 (by omega)) ?_
      refine S_mv rfl ?_
      refine S_mv rfl ?_
      refine S_ix T.el37 rfl rfl (by omega) (by omega) ?_
      rw [Nat.zero_add, Int.toNat_natCast]
      first | refine S_fa0 T.f104_0 rfl ?_ | refine S_fa T.f104_0 rfl ?_
      refine S_ldK T.ag9 rfl (fun K' hK' => ?_)
      simp (disch := omega) only [m0, n0, n1, oP_some, Nat.add_zero]
      refine hK' _ ?_; clear hK' K'
      refine S_bs T.ei55 rfl (by decide) (by decide) (T.bs55_1_0 _) ?_
      generalize hh : Array.push h5 _ = h6
      have b6 : B h6 h5.size #[.int .u8 ((nm.size : Nat) : Int)] 5 := by rw [← hh]; exact B.new _ _ _
      have hEh6 : Ext (fun _ => False) h5 h6 := by rw [← hh]; exact Ext.push _ _ _
      clear hh
      have ev6 := ev5.new hEh6
      clear n0 n1 hc
      obtain ⟨b9, hb9, _, _, hc⟩ := ev6.get (i := i) (by omega)
      cases hb9
      have n0 := (hc i (by omega)).1
      have n1 := (hc i (by omega)).2
      rw [← enm] at n0
      rw [← edt] at n1
      refine S_str (bs := [((nm.size : Nat) : Int)]) T.kd55 T.kd9 T.in9 rfl (by simp only [srcV, Nat.mul_one]; exact b6.all rfl) ?_
      refine S_bin rfl rfl (strV_add (by simp only [ByteArray.size_append, mkS_size, t2_len, List.length_cons, List.length_nil]; omega)) ?_
      refine S_bin rfl rfl (strV_add (by simp only [ByteArray.size_append, mkS_size, t2_len, List.length_cons, List.length_nil]; omega)) ?_
      refine S_mv rfl ?_
      refine S_bin rfl rfl (strV_add (by simp only [ByteArray.size_append, mkS_size, t2_len, List.length_cons, List.length_nil]; omega)) ?_
      refine S_mv rfl ?_
      refine S_bin rfl rfl (strV_add (by simp only [ByteArray.size_append, mkS_size, t2_len, List.length_cons, List.length_nil]; omega)) ?_
      refine S_mv rfl ?_
      refine S_bin rfl rfl (strV_add (by simp only [ByteArray.size_append, mkS_size, t2_len, List.length_cons, List.length_nil]; omega)) ?_
      refine S_mv rfl ?_
      refine S_bin rfl rfl (strV_add (by simp only [ByteArray.size_append, mkS_size, t2_len, List.length_cons, List.length_nil]; omega)) ?_
      refine S_as rfl ?_
      refine S_nilk [0, 1, 2, 9, 10, 11] (by simp only [proj, lk, reduceIte, Nat.reduceEqDiff]; rfl) ?_
      refine hK13 _ _ ?_; clear hK13
      refine V_reg T.mix (by kernel_rfl) ?_
      refine S_mv rfl ?_
      refine S_addN (i + 1) rfl rfl (by omega) (by omega) ?_
      refine S_as rfl ?_
      refine S_nilk [0, 1, 2, 9, 10, 11] (by simp only [proj, lk, reduceIte, Nat.reduceEqDiff]; rfl) ?_
      have hE6 : Ext (fun _ => False) hk h6 := ((((hE1.trans hEh2).trans hEh3).trans hEh4).trans hEh5).trans hEh6
      have htx : tx ++ mkS [((nm.size : Nat) : Int)] ++ nm ++ mkS (t2 dt.size) ++ mkS (t2 px.size) ++ mkS (t2 (smF dt)) ++ px = mkS (rcs lv (Q.take (i + 1))) := by rw [ga_take (by omega), rcs_app, rcs_one, ← mk_rcd, ← enm, ← edt, ← epx, etx]
      exact hK10 _ _ ⟨_, by omega, i + 1, h6, _, _, by omega, mwk.new hE6, evk.new hE6, htx, by unfold drL; rw [mkS_app, ← edx, ← hts], by rw [htx, mkS_size]; rfl, by rw [ByteArray.size_append, hds, mkS_size, t2_len]; omega, hEk.trans hE6, rfl, rfl, rfl⟩
    · skip
      refine V_exitk [1, 9, 10] rfl (by simp only [proj, lk, reduceIte, Nat.reduceEqDiff]; rfl) ?_
      refine hK8 _ _ ?_; clear hK8
      refine V_sr T.mix (by kernel_rfl) (fun K20 hK20 => ?_)
      refine S_mv rfl ?_
      refine S_lens T.kd9 rfl ?_
      refine S_as rfl ?_
      refine S_nil (hK20 _ _ (V_keep [1, 9, 10, 18] (by simp only [proj, lk, reduceIte, Nat.reduceEqDiff]; rfl) ?_)); clear hK20
      refine V_srT #[7, 8, 9, 2, 3, 4, 5, 6, 10, 0, 1, 11, 12, 13, 14] [9, 10, 3, 4, 5, 6, 7, 0, 1, 2, 8, 11, 12, 13, 14] #[7, 8, 9, 0, 1, 2, 3, 6, 10, 4, 5, 11, 12, 13, 14] [3, 4, 5, 6, 9, 10, 7, 0, 1, 2, 8, 11, 12, 13, 14] #[7, 8, 9, 0, 1, 2, 3, 4, 10, 5, 6, 11, 12, 13, 14] [3, 4, 5, 6, 7, 9, 10, 0, 1, 2, 8, 11, 12, 13, 14] 10 6 7 T.mix (by kernel_rfl) (fun K21 hK21 => ?_)
      suffices hJ21 : ∀ l h', (∃ (j2 : Heap), (Ext (fun _ => False) hk j2) ∧ l = [(6, .string (tx ++ dx ++ mkS [((Q.length : Nat) : Int)] ++ mkS (t2 tx.size) ++ ⟨#[90]⟩)), (7, .int .i64 0)] ∧ j2 = h') → K21 l h' by
        refine ⟨?_, ?_, ?_⟩
        · skip
          refine S_mv rfl ?_
          refine S_call T.hb55 rfl ?_
          refine FC.mono (mtwo_spec hk tx.size (by omega)) ?_
          rintro v' j1 ⟨rfl, hEj1⟩
          refine S_mv rfl ?_
          refine S_lenl T.el37 rfl ?_
          refine S_cvN Q.length T.us3 T.in5 rfl rfl (top_u8 (by omega)) ?_
          refine S_bs T.ei55 rfl (by decide) (by decide) (T.bs55_1_0 _) ?_
          generalize hh : Array.push j1 _ = j2
          have c1 : B j2 j1.size #[.int .u8 ((Q.length : Nat) : Int)] 5 := by rw [← hh]; exact B.new _ _ _
          have hEj2 : Ext (fun _ => False) j1 j2 := by rw [← hh]; exact Ext.push _ _ _
          clear hh
          refine S_str (bs := [((Q.length : Nat) : Int)]) T.kd55 T.kd9 T.in9 rfl (by simp only [srcV, Nat.mul_one]; exact c1.all rfl) ?_
          refine S_mv rfl ?_
          refine S_mv rfl ?_
          refine S_bin rfl rfl (strV_add (by omega)) ?_
          refine S_bin rfl rfl (strV_add (by simp only [ByteArray.size_append, mkS_size, t2_len, List.length_cons, List.length_nil]; omega)) ?_
          refine S_bin rfl rfl (strV_add (by simp only [ByteArray.size_append, mkS_size, t2_len, List.length_cons, List.length_nil]; omega)) ?_
          refine S_bin rfl rfl (strV_add (by simp only [ByteArray.size_append, mkS_size, t2_len, List.length_cons, List.length_nil]; have h9 : (⟨#[90]⟩ : ByteArray).size = 1 := rfl; omega)) ?_
          refine S_as rfl ?_
          refine S_as rfl ?_
          refine S_nilk [6, 7] (by simp only [proj, lk, reduceIte, Nat.reduceEqDiff]; rfl) ?_
          exact hJ21 _ _ ⟨j2, hEj1.trans hEj2, rfl, rfl⟩
        · skip
          refine S_mv rfl ?_
          refine S_lenl T.el37 rfl ?_
          refine S_cvN Q.length T.us3 T.in5 rfl rfl (top_u8 (by omega)) ?_
          refine S_bs T.ei55 rfl (by decide) (by decide) (T.bs55_1_0 _) ?_
          generalize hh : Array.push hk _ = j1
          have c1 : B j1 hk.size #[.int .u8 ((Q.length : Nat) : Int)] 5 := by rw [← hh]; exact B.new _ _ _
          have hEj1 : Ext (fun _ => False) hk j1 := by rw [← hh]; exact Ext.push _ _ _
          clear hh
          refine S_mv rfl ?_
          refine S_call T.hb55 rfl ?_
          refine FC.mono (mtwo_spec j1 tx.size (by omega)) ?_
          rintro v' j2 ⟨rfl, hEj2⟩
          refine S_str (bs := [((Q.length : Nat) : Int)]) T.kd55 T.kd9 T.in9 rfl (by simp only [srcV, Nat.mul_one]; exact (c1.ext hEj2 (fun f => f)).all rfl) ?_
          refine S_mv rfl ?_
          refine S_mv rfl ?_
          refine S_bin rfl rfl (strV_add (by omega)) ?_
          refine S_bin rfl rfl (strV_add (by simp only [ByteArray.size_append, mkS_size, t2_len, List.length_cons, List.length_nil]; omega)) ?_
          refine S_bin rfl rfl (strV_add (by simp only [ByteArray.size_append, mkS_size, t2_len, List.length_cons, List.length_nil]; omega)) ?_
          refine S_bin rfl rfl (strV_add (by simp only [ByteArray.size_append, mkS_size, t2_len, List.length_cons, List.length_nil]; have h9 : (⟨#[90]⟩ : ByteArray).size = 1 := rfl; omega)) ?_
          refine S_as rfl ?_
          refine S_as rfl ?_
          refine S_nilk [6, 7] (by simp only [proj, lk, reduceIte, Nat.reduceEqDiff]; rfl) ?_
          exact hJ21 _ _ ⟨j2, hEj1.trans hEj2, rfl, rfl⟩
        · skip
          refine S_mv rfl ?_
          refine S_lenl T.el37 rfl ?_
          refine S_cvN Q.length T.us3 T.in5 rfl rfl (top_u8 (by omega)) ?_
          refine S_bs T.ei55 rfl (by decide) (by decide) (T.bs55_1_0 _) ?_
          generalize hh : Array.push hk _ = j1
          have c1 : B j1 hk.size #[.int .u8 ((Q.length : Nat) : Int)] 5 := by rw [← hh]; exact B.new _ _ _
          have hEj1 : Ext (fun _ => False) hk j1 := by rw [← hh]; exact Ext.push _ _ _
          clear hh
          refine S_str (bs := [((Q.length : Nat) : Int)]) T.kd55 T.kd9 T.in9 rfl (by simp only [srcV, Nat.mul_one]; exact c1.all rfl) ?_
          refine S_mv rfl ?_
          refine S_call T.hb55 rfl ?_
          refine FC.mono (mtwo_spec j1 tx.size (by omega)) ?_
          rintro v' j2 ⟨rfl, hEj2⟩
          refine S_mv rfl ?_
          refine S_mv rfl ?_
          refine S_bin rfl rfl (strV_add (by omega)) ?_
          refine S_bin rfl rfl (strV_add (by simp only [ByteArray.size_append, mkS_size, t2_len, List.length_cons, List.length_nil]; omega)) ?_
          refine S_bin rfl rfl (strV_add (by simp only [ByteArray.size_append, mkS_size, t2_len, List.length_cons, List.length_nil]; omega)) ?_
          refine S_bin rfl rfl (strV_add (by simp only [ByteArray.size_append, mkS_size, t2_len, List.length_cons, List.length_nil]; have h9 : (⟨#[90]⟩ : ByteArray).size = 1 := rfl; omega)) ?_
          refine S_as rfl ?_
          refine S_as rfl ?_
          refine S_nilk [6, 7] (by simp only [proj, lk, reduceIte, Nat.reduceEqDiff]; rfl) ?_
          exact hJ21 _ _ ⟨j2, hEj1.trans hEj2, rfl, rfl⟩
      rintro l h' ⟨j2, hEjj, rfl, rfl⟩
      refine hK21 _ _ ?_; clear hK21
      refine V_ret ?_
      refine hR _ _ (ret2 rfl rfl rfl ?_)
      have hii : i = Q.length := by omega
      have htx : tx = mkS (rcs lv Q) := by rw [etx, hii, List.take_length]
      have hdx : dx = mkS (drL lv Q Q.length) := by rw [edx, hii]
      have hts2 : tx.size = (rcs lv Q).length := by rw [htx, mkS_size]
      exact ⟨by unfold apT; rw [hcf, if_pos rfl, ← mk_end, ← htx, ← hdx, ← hts2]; rfl, hEk.trans hEjj⟩
end Go.Proofs.Qxb6500404aGreat
