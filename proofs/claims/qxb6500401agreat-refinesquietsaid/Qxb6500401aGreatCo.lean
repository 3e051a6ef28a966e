import Derived.Test.Qxb6500401aGreatCn
import Derived.Test.Qxb6500401aGreatLg
set_option linter.unusedVariables false
set_option linter.unusedSimpArgs false
namespace Go.Proofs.Qxb6500401aGreat.ChkW
open Go.Eng Go.Cnf Go.Chk

def RefS (last : Nat) : Prop := ∀ (h : Heap) (la : Option Addr) (lc lo hi_ : Nat) (cs : List (List Int)) (hlv : LV lo hi_ h la lc cs) (hcs : ∀ c ∈ cs, Nrm c) (hll : cs.length ≤ 1099511627776) (pa : Option Addr) (pc : Nat) (pre : List Int) (hpre : IL h pa pc pre) (hpk : PreOk cs pre last) (fa : Option Addr) (fc : Nat) (fl : List Int) (hf : OwnR hi_ h fa fl.length fc (ints fl) 3 1) (hfp : ∀ z, blkA fa = some z → blkA pa ≠ some z) (hfl : fl.length + tb last ≤ 1000000), FC Tryz.prog 67 (#[.slice la cs.length lc, .slice pa pre.length pc, .int .i64 (last : Int), .slice fa fl.length fc] : Array Value) h fun rv h' => ∃ (fa' : Option Addr) (fc' : Nat) (rows : List Rw), rv = .slice fa' (fl ++ flatR rows).length fc' ∧ OwnR hi_ h' fa' (fl ++ flatR rows).length fc' (ints (fl ++ flatR rows)) 3 1 ∧ Ext (fun z => blkA fa = some z) h h' ∧ (∀ z, blkA fa' = some z → blkA fa = some z ∨ h.size ≤ z) ∧ Tree cs pre last rows
theorem nx_not {cs : List (List Int)} {k i : Nat} {u : Int} (hu : u = k) (hi : i = cs.length) (h : ∀ c ∈ cs.take i, u ∉ c ∧ -u ∉ c) : ¬ occ cs k := by
  rw [hi, List.take_length] at h
  rintro ⟨c, hc, q⟩
  rw [hu] at h
  rcases q with q | q
  · exact (h c hc).1 q
  · exact (h c hc).2 q
theorem nocc_snoc {cs : List (List Int)} {i : Nat} {u : Int} (hi : i < cs.length) (h : ∀ c ∈ cs.take i, u ∉ c ∧ -u ∉ c) (h2 : u ∉ cs.getD i [] ∧ -u ∉ cs.getD i []) : ∀ c ∈ cs.take (i + 1), u ∉ c ∧ -u ∉ c := fun c hc => by
  rcases (mem_rtake hi).1 hc with q | q
  · exact h c q
  · rw [q]; exact h2
theorem ng_take {pre : List Int} {i : Nat} (h : i < pre.length) : ng (pre.take (i + 1)) = ng (pre.take i) ++ [-(pre.getD i 0)] := by
  rw [getD_snoc _ _ h, ng_snoc]
set_option maxHeartbeats 400000 in
theorem deny_spec (h : Heap) (pa : Option Addr) (pc : Nat) (pre : List Int) (hpre : IL h pa pc pre) (hn : Nrm pre) :
    FC Tryz.prog 102 (#[.slice pa pre.length pc] : Array Value) h fun rv h' => ∃ (da : Option Addr) (dc : Nat), rv = .slice da (ng pre).length dc ∧ OwnR h.size h' da (ng pre).length dc (ints (ng pre)) 3 1 ∧ Ext (fun _ => False) h h' := by
  have hcl := hn.len
  refine FC_of [(0, .slice pa pre.length pc)] Tryz.func102 rfl Tryz.ntmps102 (by simp) rfl (fun R hR => ?_)
  refine V_sr T.mix (by kernel_rfl) (fun K1 hK1 => ?_)
  refine S_as rfl ?_
  refine S_nil (hK1 _ _ (V_keep [0] (by simp only [proj, lk, reduceIte, Nat.reduceEqDiff]; rfl) ?_)); clear hK1
  refine V_sr T.mix (by kernel_rfl) (fun K2 hK2 => ?_)
  refine S_as rfl ?_
  refine S_nil (hK2 _ _ (V_keep [0, 3] (by simp only [proj, lk, reduceIte, Nat.reduceEqDiff]; rfl) ?_)); clear hK2
  refine V_seq (fun K3 hK3 => ?_)
  refine V_sr T.mix (by kernel_rfl) (fun K4 hK4 => ?_)
  refine S_as rfl ?_
  refine S_nil (hK4 _ _ (V_keep [0, 3, 4] (by simp only [proj, lk, reduceIte, Nat.reduceEqDiff]; rfl) ?_)); clear hK4
  refine V_block ?_
  refine V_loop (fun m l h' => ∃ (i : Nat) (hk : Heap) (da : Option Addr) (dc : Nat) (ds : List Int), (i ≤ pre.length) ∧ (ds = ng (pre.take i)) ∧ (OwnR h.size hk da ds.length dc (ints ds) 3 1) ∧ (Ext (fun _ => False) h hk) ∧ m = pre.length - i ∧ l = [(0, .slice pa pre.length pc), (3, .slice da ds.length dc), (4, .int .i64 (i : Int))] ∧ hk = h') _ ⟨0, h, none, 0, [], by omega, by simp [ng], OwnR.nil _ _ _ _, Ext.refl _ _, rfl, rfl, rfl⟩ ?_
  rintro m l h' ⟨i, hk, da, dc, ds, hi, hds, hoo, hE, rfl, rfl, rfl⟩ K5 hK5
  have hs2 := hE.1
  have hp2 := hpre.ext hE (fun _ _ f => f)
  have hol : ds.length ≤ i := by rw [hds, ng_len]; simp; omega
  refine V_seq (fun K6 hK6 => ?_)
  refine V_sr T.mix (by kernel_rfl) (fun K7 hK7 => ?_)
  refine S_mv rfl ?_
  refine S_mv rfl ?_
  refine S_lenl T.el49 rfl ?_
  refine S_bin rfl rfl rfl ?_
  refine S_nil (hK7 _ _ (V_keep [0, 3, 4, 8] (by simp only [proj, lk, reduceIte, Nat.reduceEqDiff]; rfl) ?_)); clear hK7
  refine V_condp rfl (fun c21 => ?_) (fun c21 => ?_)
  · skip
    obtain ⟨bb, rfl, _, _, _⟩ := hp2.get (by omega)
    have hgd := gd_getD hn.1 (show i < pre.length by omega)
    unfold gd at hgd
    refine V_skipk [0, 3, 4] (by simp only [proj, lk, reduceIte, Nat.reduceEqDiff]; rfl) ?_
    refine hK6 _ _ ?_; clear hK6
    refine V_seq (fun K8 hK8 => ?_)
    refine V_block ?_
    refine V_reg T.mix (by kernel_rfl) ?_
    refine S_mv rfl ?_
    refine S_mv rfl ?_
    refine S_mv rfl ?_
    first | refine S_ixn T.el49 rfl rfl (by omega) ?_ | refine S_ix1 T.el49 rfl rfl (by omega) (by omega) ?_ | refine S_ix T.el49 rfl rfl (by omega) (by omega) ?_
    refine S_ldK T.ag3 rfl (fun K' hK' => ?_)
    simp (disch := omega) only [hp2.at, oP_some, Nat.add_zero]
    refine hK' _ ?_; clear hK' K'
    first | refine S_neg rfl (by omega) (by omega) ?_ | refine S_un rfl rfl ?_
    refine S_bs T.ei49 rfl (by decide) (by decide) (T.bs49_1_0 _) ?_
    refine S_appx (lo := h.size) T.ei49 T.ni49 T.us49 rfl rfl rfl (OwnR.ext hoo (Ext.push (fun _ => False) _ _) (fun _ _ f => f)) (by simp; omega) (cellsH_new _ _ _) rfl (by omega) (by decide) (by decide) rfl (fun a4 c4 h4 ho4 hE4x hb4x => ?_)
    have hE4 : Ext (fun z => blkA da = some z) hk h4 := (Ext.push _ _ _).trans hE4x
    have hb4 := new_blk (h := hk) hb4x (by simp)
    have hoo4 : OwnR h.size h4 a4 (ds ++ [-(pre.getD i 0)]).length c4 (ints (ds ++ [-(pre.getD i 0)])) 3 1 := by rw [ints_snoc, List.length_append]; exact ho4
    refine S_as rfl ?_
    refine S_nilk [0, 3, 4] (by simp only [proj, lk, reduceIte, Nat.reduceEqDiff]; rfl) ?_
    refine hK8 _ _ ?_; clear hK8
    refine V_reg T.mix (by kernel_rfl) ?_
    refine S_mv rfl ?_
    first | refine S_add rfl rfl (by omega) (by omega) ?_ | refine S_bin rfl rfl rfl ?_
    refine S_as rfl ?_
    refine S_nilk [0, 3, 4] (by simp only [proj, lk, reduceIte, Nat.reduceEqDiff]; rfl) ?_
    exact hK5 _ _ ⟨_, by omega, i + 1, h4, a4, c4, ds ++ [-(pre.getD i 0)], by omega, (by rw [ng_take (by omega), ← hds]), hoo4, hE.step hE4 (fun z hz e => by have h9 := OwnR.blk2 hoo e; omega), rfl, by simp, rfl⟩
  · skip
    refine V_exitk [3] rfl (by simp only [proj, lk, reduceIte, Nat.reduceEqDiff]; rfl) ?_
    refine hK3 _ _ ?_; clear hK3
    refine V_sr T.mix (by kernel_rfl) (fun K9 hK9 => ?_)
    refine S_mv rfl ?_
    refine S_as rfl ?_
    refine S_nil (hK9 _ _ (V_keep [2] (by simp only [proj, lk, reduceIte, Nat.reduceEqDiff]; rfl) ?_)); clear hK9
    refine V_ret ?_
    refine hR _ _ (ret1 rfl rfl ?_)
    have hie : i = pre.length := by omega
    rw [hie, List.take_length] at hds
    rw [hds] at hoo
    rw [hds]
    exact ⟨da, dc, rfl, hoo, hE⟩
set_option maxHeartbeats 400000 in
theorem mrow_spec (h : Heap) (lo : Nat) (hlo : lo ≤ h.size) (fa : Option Addr) (fc : Nat) (fl : List Int) (hf : OwnR lo h fa fl.length fc (ints fl) 3 1) (hfl : fl.length ≤ 2000000) (d : Bool) (ac : Option Addr) (cc : Nat) (c : List Int) (hc : IL h ac cc c) (hcl : c.length ≤ 12) (hne : ∀ z, blkA fa = some z → blkA ac ≠ some z) :
    FC Tryz.prog 104 (#[.slice fa fl.length fc, .bool (decide (d = true)), .slice ac c.length cc] : Array Value) h fun rv h' => ∃ (fa' : Option Addr) (fc' : Nat), rv = .slice fa' (fl ++ oneR (d, c)).length fc' ∧ OwnR lo h' fa' (fl ++ oneR (d, c)).length fc' (ints (fl ++ oneR (d, c))) 3 1 ∧ Ext (fun z => blkA fa = some z) h h' ∧ ∀ z, blkA fa' = some z → blkA fa = some z ∨ h.size ≤ z := by
  refine FC_of [(0, .slice fa fl.length fc), (1, .bool (decide (d = true))), (2, .slice ac c.length cc)] Tryz.func104 rfl Tryz.ntmps104 (by simp) rfl (fun R hR => ?_)
  refine V_sr T.mix (by kernel_rfl) (fun K1 hK1 => ?_)
  refine S_as rfl ?_
  refine S_nil (hK1 _ _ (V_keep [0, 1, 2] (by simp only [proj, lk, reduceIte, Nat.reduceEqDiff]; rfl) ?_)); clear hK1
  refine V_seqJ (fun l h' => ∃ (h5 : Heap) (a5 : Option Addr) (c5 : Nat) (gl : List Int), (OwnR lo h5 a5 gl.length c5 (ints gl) 3 1) ∧ (IL h5 ac cc c) ∧ (Ext (fun z => blkA fa = some z) h h5) ∧ (gl = fl ++ (if d then [13] else [])) ∧ (gl.length ≤ fl.length + 1) ∧ (∀ z, blkA a5 = some z → blkA fa = some z ∨ h.size ≤ z) ∧ l = [(0, .slice a5 gl.length c5), (2, .slice ac c.length cc)] ∧ h5 = h') ?_ ?_
  · skip
    refine V_sr T.mix (by kernel_rfl) (fun K3 hK3 => ?_)
    refine S_mv rfl ?_
    refine S_nil (hK3 _ _ (V_keep [0, 2, 7] (by simp only [proj, lk, reduceIte, Nat.reduceEqDiff]; rfl) ?_)); clear hK3
    refine V_condp rfl (fun c28 => ?_) (fun c28 => ?_)
    · skip
      refine V_reg T.mix (by kernel_rfl) ?_
      refine S_mv rfl ?_
      refine S_bs T.ei49 rfl (by decide) (by decide) (T.bs49_1_0 _) ?_
      refine S_appx (lo := lo) T.ei49 T.ni49 T.us49 rfl rfl rfl (OwnR.ext hf (Ext.push (fun _ => False) _ _) (fun _ _ f => f)) (by simp; omega) (cellsH_new _ _ _) rfl (by omega) (by decide) (by decide) rfl (fun a4 c4 h4 ho4 hE4x hb4x => ?_)
      have hE4 : Ext (fun z => blkA fa = some z) h h4 := (Ext.push _ _ _).trans hE4x
      have hb4 := new_blk (h := h) hb4x (by simp)
      refine S_as rfl ?_
      refine S_nilk [0, 2] (by simp only [proj, lk, reduceIte, Nat.reduceEqDiff]; rfl) ?_
      exact ⟨h4, a4, c4, fl ++ [13], (by rw [ints_snoc, List.length_append]; exact ho4), hc.ext hE4 (fun z e x => hne z x e), hE4, (by rw [if_pos c28]), by simp, hb4, by simp, rfl⟩
    · skip
      refine V_skipk [0, 2] (by simp only [proj, lk, reduceIte, Nat.reduceEqDiff]; rfl) ?_
      exact ⟨h, fa, fc, fl, hf, hc, Ext.refl _ _, by rw [if_neg c28]; simp, by omega, fun z e => .inl e, rfl, rfl⟩
  rintro l h' ⟨h5, a5, c5, gl, hf5, hc5, hE5, hgl, hgn, hb5, rfl, rfl⟩
  have hl5 := hE5.1
  have hne5 : ∀ z, blkA a5 = some z → blkA ac ≠ some z := fun z e x => by rcases hb5 z e with q | q; (exact hne z q x); (have h9 := hc.lt x; omega)
  refine V_sr T.mix (by kernel_rfl) (fun K4 hK4 => ?_)
  refine S_mv rfl ?_
  refine S_mv rfl ?_
  refine S_appx (lo := lo) T.ei49 T.ni49 T.us49 rfl rfl rfl hf5 (by omega) (OwnR.cells hc5) (by rw [ints_len, Nat.mul_one]) (by omega) (by decide) (by decide) (by rw [List.all_eq_true]; exact ints_one _) (fun a6 c6 h6 ho6 hE6 hb6x => ?_)
  have hb6 := new_blk (h := h5) hb6x (by omega)
  have hl6 := hE6.1
  have hE6b : Ext (fun z => blkA fa = some z) h h6 := hE5.step hE6 (fun z hz e => by rcases hb5 z e with q | q; (exact q); (omega))
  have hb6b : ∀ z, blkA a6 = some z → blkA fa = some z ∨ h.size ≤ z := fun z e => by rcases hb6 z e with q | q; (exact hb5 z q); (exact .inr (by omega))
  refine S_as rfl ?_
  refine S_nil (hK4 _ _ (V_keep [0] (by simp only [proj, lk, reduceIte, Nat.reduceEqDiff]; rfl) ?_)); clear hK4
  refine V_sr T.mix (by kernel_rfl) (fun K5 hK5 => ?_)
  refine S_mv rfl ?_
  refine S_bs T.ei49 rfl (by decide) (by decide) (T.bs49_1_0 _) ?_
  refine S_appx (lo := lo) T.ei49 T.ni49 T.us49 rfl rfl rfl (OwnR.ext ho6 (Ext.push (fun _ => False) _ _) (fun _ _ f => f)) (by simp; omega) (cellsH_new _ _ _) rfl (by omega) (by decide) (by decide) rfl (fun a7 c7 h7 ho7 hE7x hb7x => ?_)
  have hE7 : Ext (fun z => blkA a6 = some z) h6 h7 := (Ext.push _ _ _).trans hE7x
  have hb7 := new_blk (h := h6) hb7x (by simp)
  refine S_as rfl ?_
  refine S_nil (hK5 _ _ (V_keep [6] (by simp only [proj, lk, reduceIte, Nat.reduceEqDiff]; rfl) ?_)); clear hK5
  refine V_ret ?_
  refine hR _ _ (ret1 rfl rfl ?_)
  have hol : (fl ++ oneR (d, c)) = gl ++ c ++ [0] := by rw [hgl]; simp [oneR]
  rw [hol]
  refine ⟨a7, c7, (by simp; omega), by rw [ints_snoc, ints_app, List.length_append, List.length_append]; exact ho7, hE6b.step hE7 (fun z hz e => by rcases hb6b z e with q | q; (exact q); (omega)), fun z e => by rcases hb7 z e with q | q; (exact hb6b z q); (exact .inr (by omega))⟩
set_option maxHeartbeats 400000 in
theorem next_spec (h : Heap) (la : Option Addr) (lc lo hi_ : Nat) (cs : List (List Int)) (hlv : LV lo hi_ h la lc cs) (hcs : ∀ c ∈ cs, Nrm c) (hll : cs.length ≤ 1099511627776) (last : Nat) (hlast : last ≤ 12) :
    FC Tryz.prog 103 (#[.slice la cs.length lc, .int .i64 (last : Int)] : Array Value) h fun rv h' => ∃ v : Nat, rv = .int .i64 (v : Int) ∧ Nx cs last v ∧ h = h' := by
  refine FC_of [(0, .slice la cs.length lc), (1, .int .i64 (last : Int))] Tryz.func103 rfl Tryz.ntmps103 (by simp) rfl (fun R hR => ?_)
  refine V_sr T.mix (by kernel_rfl) (fun K1 hK1 => ?_)
  refine S_as rfl ?_
  refine S_nil (hK1 _ _ (V_keep [0, 1] (by simp only [proj, lk, reduceIte, Nat.reduceEqDiff]; rfl) ?_)); clear hK1
  refine V_seq (fun K2 hK2 => ?_)
  refine V_sr T.mix (by kernel_rfl) (fun K3 hK3 => ?_)
  refine S_mv rfl ?_
  first | refine S_add rfl rfl (by omega) (by omega) ?_ | refine S_bin rfl rfl rfl ?_
  refine S_as rfl ?_
  refine S_nil (hK3 _ _ (V_keep [0, 5] (by simp only [proj, lk, reduceIte, Nat.reduceEqDiff]; rfl) ?_)); clear hK3
  refine V_block ?_
  refine V_loop (fun m l h' => ∃ (k : Nat), (last < k) ∧ (k ≤ 13) ∧ (∀ u, last < u → u < k → ¬ occ cs u) ∧ m = 13 - k ∧ l = [(0, .slice la cs.length lc), (5, .int .i64 (k : Int))] ∧ h = h') _ ⟨last + 1, by omega, by omega, fun u h1 h2 => by omega, rfl, rfl, rfl⟩ ?_
  rintro m l h' ⟨k, hk1, hk2, hno, rfl, rfl, rfl⟩ K4 hK4
  refine V_seq (fun K5 hK5 => ?_)
  refine V_sr T.mix (by kernel_rfl) (fun K6 hK6 => ?_)
  refine S_mv rfl ?_
  refine S_bin rfl rfl rfl ?_
  refine S_nil (hK6 _ _ (V_keep [0, 5, 10] (by simp only [proj, lk, reduceIte, Nat.reduceEqDiff]; rfl) ?_)); clear hK6
  refine V_condp rfl (fun c37 => ?_) (fun c37 => ?_)
  · skip
    refine V_skipk [0, 5] (by simp only [proj, lk, reduceIte, Nat.reduceEqDiff]; rfl) ?_
    refine hK5 _ _ ?_; clear hK5
    refine V_seq (fun K7 hK7 => ?_)
    refine V_block ?_
    refine V_sr T.mix (by kernel_rfl) (fun K8 hK8 => ?_)
    refine S_as rfl ?_
    refine S_nil (hK8 _ _ (V_keep [0, 5, 6] (by simp only [proj, lk, reduceIte, Nat.reduceEqDiff]; rfl) ?_)); clear hK8
    refine V_block ?_
    refine V_loop (fun m l h' => ∃ (i : Nat), (i ≤ cs.length) ∧ (∀ c ∈ cs.take i, (k : Int) ∉ c ∧ -(k : Int) ∉ c) ∧ m = cs.length - i ∧ l = [(0, .slice la cs.length lc), (5, .int .i64 (k : Int)), (6, .int .i64 (i : Int))] ∧ h = h') _ ⟨0, by omega, by simp, rfl, rfl, rfl⟩ ?_
    rintro m l h' ⟨i, hi, hnc, rfl, rfl, rfl⟩ K9 hK9
    refine V_seq (fun K10 hK10 => ?_)
    refine V_sr T.mix (by kernel_rfl) (fun K11 hK11 => ?_)
    refine S_mv rfl ?_
    refine S_mv rfl ?_
    refine S_lenl T.el38 rfl ?_
    refine S_bin rfl rfl rfl ?_
    refine S_nil (hK11 _ _ (V_keep [0, 5, 6, 16] (by simp only [proj, lk, reduceIte, Nat.reduceEqDiff]; rfl) ?_)); clear hK11
    refine V_condp rfl (fun c38 => ?_) (fun c38 => ?_)
    · skip
      obtain ⟨bb, rfl, hbb1, hbb2, hgt⟩ := (hlv).get (by omega)
      obtain ⟨ai, ci, hcell, hIc, hbi⟩ := hgt i (by omega)
      refine V_skipk [0, 5, 6] (by simp only [proj, lk, reduceIte, Nat.reduceEqDiff]; rfl) ?_
      refine hK10 _ _ ?_; clear hK10
      refine V_seq (fun K12 hK12 => ?_)
      refine V_block ?_
      refine V_sr T.mix (by kernel_rfl) (fun K13 hK13 => ?_)
      refine S_mv rfl ?_
      refine S_mv rfl ?_
      refine S_mv rfl ?_
      first | refine S_ixn T.el38 rfl rfl (by omega) ?_ | refine S_ix1 T.el38 rfl rfl (by omega) (by omega) ?_ | refine S_ix T.el38 rfl rfl (by omega) (by omega) ?_
      refine S_ldK T.ag49 rfl (fun K' hK' => ?_)
      simp (disch := omega) only [hcell, oP_some, Nat.add_zero]
      refine hK' _ ?_; clear hK' K'
      refine S_call T.hb133 rfl ?_
      refine FC.mono (val_spec h (k : Int) (by omega) ai ci (cs.getD i []) hIc (by have h9 := (hcs _ (getD_mem (show i < cs.length by omega))).len; omega)) ?_
      rintro v' h' ⟨v, rfl, hv, rfl⟩
      refine S_bin rfl rfl rfl ?_
      refine S_nil (hK13 _ _ (V_keep [0, 5, 6, 25] (by simp only [proj, lk, reduceIte, Nat.reduceEqDiff]; rfl) ?_)); clear hK13
      refine V_condp rfl (fun c39 => ?_) (fun c39 => ?_)
      · skip
        refine V_sr T.mix (by kernel_rfl) (fun K14 hK14 => ?_)
        refine S_mv rfl ?_
        refine S_as rfl ?_
        refine S_nil (hK14 _ _ (V_keep [4] (by simp only [proj, lk, reduceIte, Nat.reduceEqDiff]; rfl) ?_)); clear hK14
        refine V_ret ?_
        refine hR _ _ (ret1 rfl rfl ?_)
        exact ⟨k, rfl, .inr ⟨hk1, by omega, hno⟩, rfl⟩
      · skip
        refine V_skipk [0, 5, 6] (by simp only [proj, lk, reduceIte, Nat.reduceEqDiff]; rfl) ?_
        refine hK12 _ _ ?_; clear hK12
        refine V_reg T.mix (by kernel_rfl) ?_
        refine S_mv rfl ?_
        first | refine S_add rfl rfl (by omega) (by omega) ?_ | refine S_bin rfl rfl rfl ?_
        refine S_as rfl ?_
        refine S_nilk [0, 5, 6] (by simp only [proj, lk, reduceIte, Nat.reduceEqDiff]; rfl) ?_
        exact hK9 _ _ ⟨_, by omega, i + 1, by omega, nocc_snoc (by omega) hnc (by rcases hv with q | q | q; (omega); (omega); (exact q.2)), rfl, rfl, rfl⟩
    · skip
      refine V_exitk [0, 5] rfl (by simp only [proj, lk, reduceIte, Nat.reduceEqDiff]; rfl) ?_
      refine hK7 _ _ ?_; clear hK7
      refine V_reg T.mix (by kernel_rfl) ?_
      refine S_mv rfl ?_
      first | refine S_add rfl rfl (by omega) (by omega) ?_ | refine S_bin rfl rfl rfl ?_
      refine S_as rfl ?_
      refine S_nilk [0, 5] (by simp only [proj, lk, reduceIte, Nat.reduceEqDiff]; rfl) ?_
      exact hK4 _ _ ⟨_, by omega, k + 1, by omega, by omega, fun u h1 h2 => by by_cases e : u = k; (subst e; exact nx_not rfl (by omega) hnc); (exact hno u h1 (by omega)), rfl, rfl, rfl⟩
  · skip
    refine V_exitk [] rfl (by simp only [proj, lk, reduceIte, Nat.reduceEqDiff]; rfl) ?_
    refine hK2 _ _ ?_; clear hK2
    refine V_sr T.mix (by kernel_rfl) (fun K15 hK15 => ?_)
    refine S_as rfl ?_
    refine S_nil (hK15 _ _ (V_keep [4] (by simp only [proj, lk, reduceIte, Nat.reduceEqDiff]; rfl) ?_)); clear hK15
    refine V_ret ?_
    refine hR _ _ (ret1 rfl rfl ?_)
    exact ⟨0, rfl, .inl ⟨rfl, fun u h1 h2 => hno u h1 (by omega)⟩, rfl⟩
set_option maxHeartbeats 1600000 in
theorem refute_step (last : Nat) (hlast : last ≤ 12) (ih : ∀ v, last < v → v ≤ 12 → RefS v) (h : Heap) (la : Option Addr) (lc lo hi_ : Nat) (cs : List (List Int)) (hlv : LV lo hi_ h la lc cs) (hcs : ∀ c ∈ cs, Nrm c) (hll : cs.length ≤ 1099511627776) (pa : Option Addr) (pc : Nat) (pre : List Int) (hpre : IL h pa pc pre) (hpk : PreOk cs pre last) (fa : Option Addr) (fc : Nat) (fl : List Int) (hf : OwnR hi_ h fa fl.length fc (ints fl) 3 1) (hfp : ∀ z, blkA fa = some z → blkA pa ≠ some z) (hfl : fl.length + tb last ≤ 1000000) :
    FC Tryz.prog 67 (#[.slice la cs.length lc, .slice pa pre.length pc, .int .i64 (last : Int), .slice fa fl.length fc] : Array Value) h fun rv h' => ∃ (fa' : Option Addr) (fc' : Nat) (rows : List Rw), rv = .slice fa' (fl ++ flatR rows).length fc' ∧ OwnR hi_ h' fa' (fl ++ flatR rows).length fc' (ints (fl ++ flatR rows)) 3 1 ∧ Ext (fun z => blkA fa = some z) h h' ∧ (∀ z, blkA fa' = some z → blkA fa = some z ∨ h.size ≤ z) ∧ Tree cs pre last rows := by
  have hcl := hpk.n.len
  have hcl2 := hpk.n.ng.len
  have hhi := hlv.le
  have htp := tb_pos last
  refine FC_of [(0, .slice la cs.length lc), (1, .slice pa pre.length pc), (2, .int .i64 (last : Int)), (3, .slice fa fl.length fc)] Tryz.func67 rfl Tryz.ntmps67 (by simp) rfl (fun R hR => ?_)
  refine V_sr T.mix (by kernel_rfl) (fun K1 hK1 => ?_)
  refine S_as rfl ?_
  refine S_nil (hK1 _ _ (V_keep [0, 1, 2, 3] (by simp only [proj, lk, reduceIte, Nat.reduceEqDiff]; rfl) ?_)); clear hK1
  refine V_sr T.mix (by kernel_rfl) (fun K2 hK2 => ?_)
  refine S_mv rfl ?_
  refine S_call T.hb102 rfl ?_
  refine FC.mono (deny_spec h pa pc pre hpre hpk.n) ?_
  rintro v' h1 ⟨da, dc, rfl, hda, hQh1⟩
  have hs1 := hQh1.1
  refine S_as rfl ?_
  refine S_nil (hK2 _ _ (V_keep [0, 1, 2, 3, 9] (by simp only [proj, lk, reduceIte, Nat.reduceEqDiff]; rfl) ?_)); clear hK2
  refine V_sr T.mix (by kernel_rfl) (fun K3 hK3 => ?_)
  refine S_mv rfl ?_
  refine S_mv rfl ?_
  refine S_call T.hb103 rfl ?_
  refine FC.mono (next_spec h1 la lc lo hi_ cs (hlv.ext hQh1 (fun _ _ _ f => f)) hcs hll last hlast) ?_
  rintro v' h' ⟨v, rfl, hnx, rfl⟩
  refine S_as rfl ?_
  refine S_nil (hK3 _ _ (V_keep [0, 1, 3, 9, 10] (by simp only [proj, lk, reduceIte, Nat.reduceEqDiff]; rfl) ?_)); clear hK3
  refine V_seq (fun K4 hK4 => ?_)
  refine V_sr T.mix (by kernel_rfl) (fun K5 hK5 => ?_)
  refine S_mv rfl ?_
  refine S_bin rfl rfl rfl ?_
  refine S_mv rfl ?_
  refine S_dec (fun g52 => ?_) (fun g52 => ?_)
  · skip
    refine S_gf rfl ?_
    refine S_gf rfl ?_
    refine S_gf rfl ?_
    refine S_pt rfl rfl ?_
    refine S_nil (hK5 _ _ (V_keep [0, 1, 3, 9, 10, 26] (by simp only [proj, lk, reduceIte, Nat.reduceEqDiff]; rfl) ?_)); clear hK5
    refine V_condt rfl ?_
    refine V_sr T.mix (by kernel_rfl) (fun K6 hK6 => ?_)
    refine S_mv rfl ?_
    refine S_mv rfl ?_
    refine S_call T.hb104 rfl ?_
    refine FC.mono (mrow_spec h1 hi_ (by omega) fa _ fl (hf.ext hQh1 (fun _ _ f => f)) (by omega) false da dc (ng pre) (own0 hda) (by omega) (fun z e x => by have h9 := OwnR.blk2 hf e; have h8 := OwnR.blk2 hda x; omega)) ?_
    rintro v' h3 ⟨f3, g3, rfl, hO3, hE3, hb3⟩
    refine S_as rfl ?_
    refine S_nil (hK6 _ _ (V_keep [8] (by simp only [proj, lk, reduceIte, Nat.reduceEqDiff]; rfl) ?_)); clear hK6
    refine V_ret ?_
    refine hR _ _ (ret1 rfl rfl ?_)
    have hv0 : v = 0 := by omega
    subst hv0
    refine ⟨f3, g3, [(false, ng pre)], by rw [flatR_one], by rw [flatR_one]; exact hO3, (hQh1.mono (fun _ f => f.elim)).step hE3 (fun z hz e => e), fun z e => by rcases hb3 z e with q | q; (exact .inl q); (exact .inr (by omega)), .leaf (.inl hnx)⟩
  · skip
    obtain ⟨hv1, hv2⟩ : last < v ∧ v ≤ 12 := by rcases hnx with q | q; (omega); (exact ⟨q.1, q.2.1⟩)
    refine S_gt rfl ?_
    refine S_mv rfl ?_
    refine S_gt rfl ?_
    refine S_mv rfl ?_
    refine S_gt rfl ?_
    refine S_call T.hb81 rfl ?_
    refine FC.mono (mrup_spec h1 la lc lo hi_ cs (hlv.ext hQh1 (fun _ _ _ f => f)) hcs hll da dc (ng pre) (own0 hda) hpk.n.ng) ?_
    rintro v' h2 ⟨g, rfl, hg, hEh2⟩
    have hs2 := hEh2.1
    have hQh2 := hQh1.trans hEh2
    have hQ := hQh2
    refine S_pf rfl rfl ?_
    refine S_nil (hK5 _ _ (V_keep [0, 1, 3, 9, 10, 26] (by simp only [proj, lk, reduceIte, Nat.reduceEqDiff]; rfl) ?_)); clear hK5
    refine V_condb rfl (fun c52 => ?_) (fun c52 => ?_)
    · skip
      refine V_sr T.mix (by kernel_rfl) (fun K7 hK7 => ?_)
      refine S_mv rfl ?_
      refine S_mv rfl ?_
      refine S_call T.hb104 rfl ?_
      refine FC.mono (mrow_spec h2 hi_ (by omega) fa _ fl (hf.ext hQ (fun _ _ f => f)) (by omega) false da dc (ng pre) (IL.ext (own0 hda) hEh2 (fun _ _ f => f)) (by omega) (fun z e x => by have h9 := OwnR.blk2 hf e; have h8 := OwnR.blk2 hda x; omega)) ?_
      rintro v' h3 ⟨f3, g3, rfl, hO3, hE3, hb3⟩
      refine S_as rfl ?_
      refine S_nil (hK7 _ _ (V_keep [8] (by simp only [proj, lk, reduceIte, Nat.reduceEqDiff]; rfl) ?_)); clear hK7
      refine V_ret ?_
      refine hR _ _ (ret1 rfl rfl ?_)
      refine ⟨f3, g3, [(false, ng pre)], by rw [flatR_one], by rw [flatR_one]; exact hO3, (hQ.mono (fun _ f => f.elim)).step hE3 (fun z hz e => e), fun z e => by rcases hb3 z e with q | q; (exact .inl q); (exact .inr (by omega)), .leaf (.inr (hg.1 c52))⟩
    · skip
      have hfx : g = false := c52
      refine V_skipk [0, 1, 3, 9, 10] (by simp only [proj, lk, reduceIte, Nat.reduceEqDiff]; rfl) ?_
      refine hK4 _ _ ?_; clear hK4
      refine V_sr T.mix (by kernel_rfl) (fun K8 hK8 => ?_)
      refine S_mv rfl ?_
      refine S_call T.hb87 rfl ?_
      refine FC.mono (copyints_spec h2 pa pc pre (hpre.ext hQh2 (fun _ _ f => f)) (by omega)) ?_
      rintro v' h3 ⟨y0, rfl, hIy0, hEh3, hny0, hby0⟩
      have hQh3 := hQh2.trans hEh3
      have hsh3 := hEh3.1
      have hOy0 : OwnR h2.size h3 y0 pre.length pre.length (ints pre) 3 1 := by rcases hIy0 with q | ⟨bq, cq, q1, q2, q3⟩; (exact .inl q); (exact .inr ⟨bq, cq, q1, hby0 bq (by rw [q1]; rfl), q3⟩)
      refine S_mv rfl ?_
      refine S_bs T.ei49 rfl (by decide) (by decide) (T.bs49_1_0 _) ?_
      refine S_appx (lo := h2.size) T.ei49 T.ni49 T.us49 rfl rfl rfl (OwnR.ext hOy0 (Ext.push (fun _ => False) _ _) (fun _ _ f => f)) (by simp; omega) (cellsH_new _ _ _) rfl (by omega) (by decide) (by decide) rfl (fun ya yc h4 hoY hEYx hbYx => ?_)
      have hEY : Ext (fun z => blkA y0 = some z) h3 h4 := (Ext.push _ _ _).trans hEYx
      have hbY := new_blk (h := h3) hbYx (by simp)
      rw [show pre.length + 1 = (pre ++ [(v : Int)]).length by simp]
      have hsh4 : h3.size ≤ h4.size := hEY.1
      have hyy : OwnR h2.size h4 ya (pre ++ [(v : Int)]).length yc (ints (pre ++ [(v : Int)])) 3 1 := by rw [ints_snoc, List.length_append]; exact hoY
      have hQh4 : Ext (fun _ => False) h h4 := hQh3.step hEY (fun z hz e => by have h9 := hby0 z e; omega)
      refine S_as rfl ?_
      refine S_nil (hK8 _ _ (V_keep [0, 1, 3, 9, 10, 11] (by simp only [proj, lk, reduceIte, Nat.reduceEqDiff]; rfl) ?_)); clear hK8
      refine V_sr T.mix (by kernel_rfl) (fun K9 hK9 => ?_)
      refine S_mv rfl ?_
      refine S_call T.hb87 rfl ?_
      refine FC.mono (copyints_spec h4 pa pc pre (hpre.ext hQh4 (fun _ _ f => f)) (by omega)) ?_
      rintro v' h5 ⟨n0, rfl, hIn0, hEh5, hnn0, hbn0⟩
      have hQh5 := hQh4.trans hEh5
      have hsh5 := hEh5.1
      have hOn0 : OwnR h4.size h5 n0 pre.length pre.length (ints pre) 3 1 := by rcases hIn0 with q | ⟨bq, cq, q1, q2, q3⟩; (exact .inl q); (exact .inr ⟨bq, cq, q1, hbn0 bq (by rw [q1]; rfl), q3⟩)
      refine S_mv rfl ?_
      first | refine S_neg rfl (by omega) (by omega) ?_ | refine S_un rfl rfl ?_
      refine S_bs T.ei49 rfl (by decide) (by decide) (T.bs49_1_0 _) ?_
      refine S_appx (lo := h4.size) T.ei49 T.ni49 T.us49 rfl rfl rfl (OwnR.ext hOn0 (Ext.push (fun _ => False) _ _) (fun _ _ f => f)) (by simp; omega) (cellsH_new _ _ _) rfl (by omega) (by decide) (by decide) rfl (fun na nc h6 hoN hENx hbNx => ?_)
      have hEN : Ext (fun z => blkA n0 = some z) h5 h6 := (Ext.push _ _ _).trans hENx
      have hbN := new_blk (h := h5) hbNx (by simp)
      rw [show pre.length + 1 = (pre ++ [-(v : Int)]).length by simp]
      have hsh6 : h5.size ≤ h6.size := hEN.1
      have hnn : OwnR h4.size h6 na (pre ++ [-(v : Int)]).length nc (ints (pre ++ [-(v : Int)])) 3 1 := by rw [ints_snoc, List.length_append]; exact hoN
      have hQh6 : Ext (fun _ => False) h h6 := hQh5.step hEN (fun z hz e => by have h9 := hbn0 z e; omega)
      have hEx46 : Ext (fun _ => False) h4 h6 := hEh5.step hEN (fun z hz e => by have h9 := hbn0 z e; omega)
      have hEx16 : Ext (fun _ => False) h1 h6 := ((hEh2.trans hEh3).step hEY (fun z hz e => by have h9 := hby0 z e; omega)).trans hEx46
      have hy6 : IL h6 ya yc (pre ++ [(v : Int)]) := IL.ext (own0 hyy) hEx46 (fun _ _ f => f)
      have hn6 : IL h6 na nc (pre ++ [-(v : Int)]) := own0 hnn
      have hf6 := hf.ext hQh6 (fun _ _ f => f)
      have py := hpk.snoc hv1 hv2 hnx (.inl rfl)
      have pn := hpk.snoc hv1 hv2 hnx (.inr rfl)
      have htb := tb_step hv1 hv2
      have htv := tb_pos v
      refine S_as rfl ?_
      refine S_nil (hK9 _ _ (V_keep [0, 3, 9, 10, 11, 12] (by simp only [proj, lk, reduceIte, Nat.reduceEqDiff]; rfl) ?_)); clear hK9
      refine V_sr T.mix (by kernel_rfl) (fun K10 hK10 => ?_)
      refine S_mv rfl ?_
      refine S_mv rfl ?_
      refine S_mv rfl ?_
      refine S_mv rfl ?_
      refine S_call T.hb67 rfl ?_
      refine FC.mono (ih v hv1 hv2 h6 la lc lo hi_ cs (hlv.ext hQh6 (fun _ _ _ f => f)) hcs hll ya yc (pre ++ [(v : Int)]) hy6 py fa fc fl hf6 (fun z e x => by have h9 := OwnR.blk2 hf e; have h8 := OwnR.blk2 hyy x; omega) (by omega)) ?_
      rintro v' h7 ⟨f7, g7, rowsA, rfl, hO7, hE7, hb7, htA⟩
      have hs7 := hE7.1
      have hla := htA.len py.ln hv2
      refine S_as rfl ?_
      refine S_nil (hK10 _ _ (V_keep [0, 3, 9, 10, 11, 12] (by simp only [proj, lk, reduceIte, Nat.reduceEqDiff]; rfl) ?_)); clear hK10
      refine V_sr T.mix (by kernel_rfl) (fun K11 hK11 => ?_)
      refine S_mv rfl ?_
      refine S_mv rfl ?_
      refine S_mv rfl ?_
      refine S_mv rfl ?_
      refine S_call T.hb67 rfl ?_
      have hn7 : IL h7 na nc (pre ++ [-(v : Int)]) := hn6.ext hE7 (fun z e x => by have h9 := OwnR.blk2 hf x; have h8 := OwnR.blk2 hnn e; omega)
      refine FC.mono (ih v hv1 hv2 h7 la lc lo hi_ cs ((hlv.ext hQh6 (fun _ _ _ f => f)).ext hE7 (fun z h1 h2 x => by have h9 := OwnR.blk2 hf x; omega)) hcs hll na nc (pre ++ [-(v : Int)]) hn7 pn f7 g7 (fl ++ flatR rowsA) hO7 (fun z e x => by have h8 := OwnR.blk2 hnn x; rcases hb7 z e with q | q; (have h9 := OwnR.blk2 hf q; omega); (omega)) (by simp; omega)) ?_
      rintro v' h8 ⟨f8, g8, rowsC, rfl, hO8, hE8, hb8, htC⟩
      have hs8 := hE8.1
      have hlc := htC.len pn.ln hv2
      have hd8 := (((OwnR.ext hda hEx16 (fun _ _ f => f))).ext hE7 (fun z e x => by have h9 := OwnR.blk2 hf x; have h8 := OwnR.blk2 hda (by rw [e]; rfl : blkA da = some z); omega)).ext hE8 (fun z e x => by have h8 := OwnR.blk2 hda (by rw [e]; rfl : blkA da = some z); rcases hb7 z x with q | q; (have h9 := OwnR.blk2 hf q; omega); (omega))
      have hy8 : IL h8 ya yc (pre ++ [(v : Int)]) := (hy6.ext hE7 (fun z e x => by have h9 := OwnR.blk2 hf x; have h8 := OwnR.blk2 hyy e; omega)).ext hE8 (fun z e x => by have h8 := OwnR.blk2 hyy e; rcases hb7 z x with q | q; (have h9 := OwnR.blk2 hf q; omega); (omega))
      have hn8 : IL h8 na nc (pre ++ [-(v : Int)]) := hn7.ext hE8 (fun z e x => by have h8 := OwnR.blk2 hnn e; rcases hb7 z x with q | q; (have h9 := OwnR.blk2 hf q; omega); (omega))
      have hb8b : ∀ z, blkA f8 = some z → blkA fa = some z ∨ h6.size ≤ z := fun z e => by rcases hb8 z e with q | q; (exact hb7 z q); (exact .inr (by omega))
      refine S_as rfl ?_
      refine S_nil (hK11 _ _ (V_keep [3, 9, 11, 12] (by simp only [proj, lk, reduceIte, Nat.reduceEqDiff]; rfl) ?_)); clear hK11
      refine V_sr T.mix (by kernel_rfl) (fun K12 hK12 => ?_)
      refine S_mv rfl ?_
      refine S_mv rfl ?_
      refine S_call T.hb104 rfl ?_
      refine FC.mono (mrow_spec h8 hi_ (by omega) f8 _ ((fl ++ flatR rowsA) ++ flatR rowsC) hO8 (by simp; omega) false da dc (ng pre) (own0 hd8) (by omega) (fun z e x => by have h8 := OwnR.blk2 hda x; rcases hb8b z e with q | q; (have h9 := OwnR.blk2 hf q; omega); (omega))) ?_
      rintro v' h20 ⟨f20, g20, rfl, hO20, hE20, hb20⟩
      have hs20 := hE20.1
      have hy20 := hy8.ext hE20 (fun z e x => by have h8 := OwnR.blk2 hyy e; rcases hb8b z x with q | q; (have h9 := OwnR.blk2 hf q; omega); (omega))
      have hn20 := hn8.ext hE20 (fun z e x => by have h8 := OwnR.blk2 hnn e; rcases hb8b z x with q | q; (have h9 := OwnR.blk2 hf q; omega); (omega))
      have hb20b : ∀ z, blkA f20 = some z → blkA fa = some z ∨ h6.size ≤ z := fun z e => by rcases hb20 z e with q | q; (exact hb8b z q); (exact .inr (by omega))
      refine S_as rfl ?_
      refine S_nil (hK12 _ _ (V_keep [3, 11, 12] (by simp only [proj, lk, reduceIte, Nat.reduceEqDiff]; rfl) ?_)); clear hK12
      refine V_sr T.mix (by kernel_rfl) (fun K13 hK13 => ?_)
      refine S_mv rfl ?_
      refine S_call T.hb102 rfl ?_
      refine FC.mono (deny_spec h20 ya yc (pre ++ [(v : Int)]) hy20 py.n) ?_
      rintro v' h9 ⟨dya, dyc, rfl, hdy, hEh9⟩
      have hs9 := hEh9.1
      refine S_as rfl ?_
      refine S_nil (hK13 _ _ (V_keep [3, 12, 13] (by simp only [proj, lk, reduceIte, Nat.reduceEqDiff]; rfl) ?_)); clear hK13
      refine V_sr T.mix (by kernel_rfl) (fun K14 hK14 => ?_)
      refine S_mv rfl ?_
      refine S_mv rfl ?_
      refine S_call T.hb104 rfl ?_
      refine FC.mono (mrow_spec h9 hi_ (by omega) f20 _ (((fl ++ flatR rowsA) ++ flatR rowsC) ++ oneR (false, ng pre)) (hO20.ext hEh9 (fun _ _ f => f)) (by simp [oneR_len, dl, ng_len]; omega) true dya dyc (ng (pre ++ [(v : Int)])) (own0 hdy) (by have h9 := py.n.ng.len; omega) (fun z e x => by have h8 := OwnR.blk2 hdy x; have h7 := OwnR.blk2 hO20 e; omega)) ?_
      rintro v' h21 ⟨f21, g21, rfl, hO21, hE21, hb21⟩
      have hs21 := hE21.1
      have hn21 := (hn20.ext hEh9 (fun _ _ f => f)).ext hE21 (fun z e x => by have h8 := OwnR.blk2 hnn e; rcases hb20b z x with q | q; (have h9 := OwnR.blk2 hf q; omega); (omega))
      have hb21b : ∀ z, blkA f21 = some z → blkA fa = some z ∨ h6.size ≤ z := fun z e => by rcases hb21 z e with q | q; (exact hb20b z q); (exact .inr (by omega))
      refine S_as rfl ?_
      refine S_nil (hK14 _ _ (V_keep [3, 12] (by simp only [proj, lk, reduceIte, Nat.reduceEqDiff]; rfl) ?_)); clear hK14
      refine V_sr T.mix (by kernel_rfl) (fun K15 hK15 => ?_)
      refine S_mv rfl ?_
      refine S_call T.hb102 rfl ?_
      refine FC.mono (deny_spec h21 na nc (pre ++ [-(v : Int)]) hn21 pn.n) ?_
      rintro v' h11 ⟨dna, dnc, rfl, hdn, hEh11⟩
      have hs11 := hEh11.1
      refine S_as rfl ?_
      refine S_nil (hK15 _ _ (V_keep [3, 14] (by simp only [proj, lk, reduceIte, Nat.reduceEqDiff]; rfl) ?_)); clear hK15
      refine V_sr T.mix (by kernel_rfl) (fun K16 hK16 => ?_)
      refine S_mv rfl ?_
      refine S_mv rfl ?_
      refine S_call T.hb104 rfl ?_
      refine FC.mono (mrow_spec h11 hi_ (by omega) f21 _ ((((fl ++ flatR rowsA) ++ flatR rowsC) ++ oneR (false, ng pre)) ++ oneR (true, ng (pre ++ [(v : Int)]))) (hO21.ext hEh11 (fun _ _ f => f)) (by simp [oneR_len, dl, ng_len]; omega) true dna dnc (ng (pre ++ [-(v : Int)])) (own0 hdn) (by have h9 := pn.n.ng.len; omega) (fun z e x => by have h8 := OwnR.blk2 hdn x; have h7 := OwnR.blk2 hO21 e; omega)) ?_
      rintro v' h22 ⟨f22, g22, rfl, hO22, hE22, hb22⟩
      refine S_as rfl ?_
      refine S_nil (hK16 _ _ (V_keep [8] (by simp only [proj, lk, reduceIte, Nat.reduceEqDiff]; rfl) ?_)); clear hK16
      refine V_ret ?_
      refine hR _ _ (ret1 rfl rfl ?_)
      have hfl2 : fl ++ flatR (rowsA ++ rowsC ++ [(false, ng pre), (true, ng (pre ++ [(v : Int)])), (true, ng (pre ++ [-(v : Int)]))]) = ((((fl ++ flatR rowsA) ++ flatR rowsC) ++ oneR (false, ng pre)) ++ oneR (true, ng (pre ++ [(v : Int)]))) ++ oneR (true, ng (pre ++ [-(v : Int)])) := by rw [flatR_app, flatR_app, show flatR [(false, ng pre), (true, ng (pre ++ [(v : Int)])), (true, ng (pre ++ [-(v : Int)]))] = oneR (false, ng pre) ++ (oneR (true, ng (pre ++ [(v : Int)])) ++ oneR (true, ng (pre ++ [-(v : Int)]))) by simp [flatR]]; simp only [List.append_assoc]
      refine ⟨f22, g22, (rowsA ++ rowsC ++ [(false, ng pre), (true, ng (pre ++ [(v : Int)])), (true, ng (pre ++ [-(v : Int)]))]), by rw [hfl2], by rw [hfl2]; exact hO22, ?_, fun z e => ?_, .node hv1 hv2 hnx htA htC⟩
      · exact (((((((hQh6.mono (fun _ f => f.elim)).step hE7 (fun z hz e => e)).step hE8 (fun z hz e => by rcases hb7 z e with q | q; (exact q); (omega))).step hE20 (fun z hz e => by rcases hb8b z e with q | q; (exact q); (omega))).step hEh9 (fun _ _ f => f.elim)).step hE21 (fun z hz e => by rcases hb20b z e with q | q; (exact q); (omega))).step hEh11 (fun _ _ f => f.elim)).step hE22 (fun z hz e => by rcases hb21b z e with q | q; (exact q); (omega))
      · rcases hb22 z e with q | q
        · rcases hb21b z q with w | w
          · exact .inl w
          · exact .inr (by omega)
        · exact .inr (by omega)
end Go.Proofs.Qxb6500401aGreat.ChkW
