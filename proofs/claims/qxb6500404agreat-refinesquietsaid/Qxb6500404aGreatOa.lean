import Derived.Test.Qxb6500404aGreatBc
import Derived.Test.Qxb6500404aGreatCd
import Derived.Test.Qxb6500404aGreatXk
import Derived.Test.Qxb6500404aGreatNe
set_option linter.unusedVariables false
set_option linter.unusedSimpArgs false
namespace Go.Proofs.Qxb6500404aGreat
open Go.Eng Go.Bits Go.Blk HufW

/-! ### the real packer in the heap -/
structure WA where
  T : Nat
  tb : Nat
  XA : Nat
  XB : Nat
  Z : LzW.MA
  P : Nat
def pcs (W : WA) : Array Value := #[.pointer (some ⟨W.T, 0, none⟩), .pointer (some ⟨W.XA, 0, none⟩), .pointer (some ⟨W.XB, 0, none⟩), .pointer (some ⟨W.Z.m, 0, none⟩), .slice (some ⟨W.P + 1, 0, none⟩) 273 273, .slice (some ⟨W.P + 2, 0, none⟩) 273 273, .slice (some ⟨W.P + 3, 0, none⟩) 273 273, .slice (some ⟨W.P + 4, 0, none⟩) 273 273]
theorem pq {h : Heap} {W : WA} (hB : B h W.P (pcs W) 75) : cellH h ⟨W.P, 0, none⟩ = some (.pointer (some ⟨W.T, 0, none⟩)) ∧ cellH h ⟨W.P, 1, none⟩ = some (.pointer (some ⟨W.XA, 0, none⟩)) ∧ cellH h ⟨W.P, 2, none⟩ = some (.pointer (some ⟨W.XB, 0, none⟩)) ∧ cellH h ⟨W.P, 3, none⟩ = some (.pointer (some ⟨W.Z.m, 0, none⟩)) ∧ cellH h ⟨W.P, 4, none⟩ = some (.slice (some ⟨W.P + 1, 0, none⟩) 273 273) ∧ cellH h ⟨W.P, 5, none⟩ = some (.slice (some ⟨W.P + 2, 0, none⟩) 273 273) ∧ cellH h ⟨W.P, 6, none⟩ = some (.slice (some ⟨W.P + 3, 0, none⟩) 273 273) ∧ cellH h ⟨W.P, 7, none⟩ = some (.slice (some ⟨W.P + 4, 0, none⟩) 273 273) := ⟨hB.cell 0, hB.cell 1, hB.cell 2, hB.cell 3, hB.cell 4, hB.cell 5, hB.cell 6, hB.cell 7⟩
/-- laid or only counted -/
def wl (lay : Bool) (s : TS) (l : List (Nat × Nat)) : TS := if lay = true then wr s l else s
theorem wl_app (lay : Bool) (s : TS) (a b : List (Nat × Nat)) : wl lay (wl lay s a) b = wl lay s (a ++ b) := by
  unfold wl; split
  · rw [wr_app]
  · rfl
theorem wl_nil (lay : Bool) (s : TS) : wl lay s [] = s := by unfold wl; split <;> rfl
theorem wr_two (s : TS) (a b : Nat × Nat) : wr s [a, b] = putS (putS s a.1 a.2) b.1 b.2 := rfl
theorem wl_it0 {lay : Bool} {s : TS} {x v more : Nat} (hl : lay = true) (h0 : ¬ (0 : Int) < more) (hv : more = 0 → v = 0) (hok : OK s) : putS s (x : Int) 4 = wl lay s [(x, 4), (v, more)] := by
  unfold wl
  rw [if_pos hl, wr_two]
  obtain rfl : more = 0 := by omega
  rw [hv rfl]
  exact (put_0 (hok.put _ _)).symm
theorem wl_it1 {lay : Bool} {s : TS} {x v more : Nat} (hl : lay = true) : putS (putS s (x : Int) 4) (v : Int) (more : Int) = wl lay s [(x, 4), (v, more)] := by
  unfold wl; rw [if_pos hl]; rfl
theorem wl_no {lay : Bool} {s : TS} {l : List (Nat × Nat)} (hl : ¬ lay = true) : s = wl lay s l := by unfold wl; rw [if_neg hl]
def pI : Option Nat → Int
  | none => -1
  | some p => p
def dro (pv : Option Nat) (held : Nat) : List (Nat × Nat × Nat) := match pv with
  | none => []
  | some p => drn p held
theorem ib_one (q : Nat × Nat × Nat) : ib [q] = 4 + q.2.2 := rfl
theorem ips_one (q : Nat × Nat × Nat) : ips [q] = [(q.1, 4), (q.2.1, q.2.2)] := rfl
theorem ib_rep (k x : Nat) : ib (List.replicate k (x, 0, 0)) = 4 * k := by
  induction k with
  | zero => rfl
  | succ k ih => rw [List.replicate_succ, ib, ih]; simp only []; omega
theorem rep_snoc {α : Type} (k : Nat) (x : α) : List.replicate (k + 1) x = List.replicate k x ++ [x] := List.replicate_succ'
/-- the numbers below 273 as a list -/
def ra (n : Nat) (f : Nat → Nat) : List Nat := (List.range n).map f
theorem ra_len (n : Nat) (f : Nat → Nat) : (ra n f).length = n := by simp [ra]
theorem ra_at {n : Nat} {f : Nat → Nat} {i : Nat} (h : i < n) : (ra n f).getD i 0 = f i := by simp [ra, h]
theorem ra_drop {n : Nat} {f : Nat → Nat} {i : Nat} (h : i < n) : (ra n f).drop i = f i :: (ra n f).drop (i + 1) := by
  rw [List.drop_eq_getElem_cons (by rw [ra_len]; exact h)]; simp [ra]
theorem ra_end {n : Nat} {f : Nat → Nat} : (ra n f).drop n = [] := List.drop_of_length_le (by rw [ra_len]; exact Nat.le_refl _)
theorem mac_end (pv : Option Nat) (held : Nat) : mac pv held [] = dro pv held := by cases pv <;> rfl
theorem mac_new {pv : Option Nat} {held x : Nat} {t : List Nat} (h : pI pv ≠ x) : mac pv held (x :: t) = dro pv held ++ (if x = 0 then mac (some 0) 1 t else (x, 0, 0) :: mac (some x) 0 t) := by
  cases pv with
  | none => rfl
  | some p => rw [mac, if_neg (fun e => h (by rw [e]; rfl))]; rfl
theorem mac_run {p held : Nat} {t : List Nat} (h : (p = 0 ∧ held + 1 = 130) ∨ (p ≠ 0 ∧ held + 1 = 6)) : mac (some p) held (p :: t) = runI p (held + 1) :: mac (some p) 0 t := by
  rw [mac, if_pos rfl, if_pos h]
theorem mac_held {p held : Nat} {t : List Nat} (h : ¬ ((p = 0 ∧ held + 1 = 130) ∨ (p ≠ 0 ∧ held + 1 = 6))) : mac (some p) held (p :: t) = mac (some p) (held + 1) t := by
  rw [mac, if_pos rfl, if_neg h]
set_option maxHeartbeats 400000 in
theorem distbase_spec (h : Heap) (c : Nat) (hc : c < 8) :
    FC Tryz.prog 108 (#[.int .i64 (c : Int)] : Array Value) h fun v h' => v = .tuple #[.int .i64 ((dB c : Nat) : Int), .int .i64 ((dM c : Nat) : Int)] ∧ h = h' := by
  refine FC_of [(0, .int .i64 (c : Int))] Tryz.func108 rfl Tryz.ntmps108 (by simp) rfl (fun R hR => ?_)
  refine V_sr T.mix (by kernel_rfl) (fun K1 hK1 => ?_)
  refine S_as rfl ?_
  refine S_as rfl ?_
  refine S_nil (hK1 _ _ (V_keep [0] (by simp only [proj, lk, reduceIte, Nat.reduceEqDiff]; rfl) ?_)); clear hK1
  refine V_seq (fun K2 hK2 => ?_)
  refine V_sr T.mix (by kernel_rfl) (fun K3 hK3 => ?_)
  refine S_mv rfl ?_
  refine S_bin rfl rfl rfl ?_
  refine S_nil (hK3 _ _ (V_keep [0, 5] (by simp only [proj, lk, reduceIte, Nat.reduceEqDiff]; rfl) ?_)); clear hK3
  refine V_condp rfl (fun c7 => ?_) (fun c7 => ?_)
  · skip
    refine V_sr T.mix (by kernel_rfl) (fun K4 hK4 => ?_)
    refine S_mv rfl ?_
    first | refine S_add rfl rfl (by omega) (by omega) ?_ | refine S_bin rfl rfl rfl ?_
    refine S_as rfl ?_
    refine S_as rfl ?_
    refine S_nil (hK4 _ _ (V_keep [2, 3] (by simp only [proj, lk, reduceIte, Nat.reduceEqDiff]; rfl) ?_)); clear hK4
    refine V_ret ?_
    refine hR _ _ (ret2 rfl rfl rfl ?_)
    exact ⟨by rw [dB, if_pos (by omega), dM, if_pos (by omega)]; simp, rfl⟩
  · skip
    refine V_skipk [0] (by simp only [proj, lk, reduceIte, Nat.reduceEqDiff]; rfl) ?_
    refine hK2 _ _ ?_; clear hK2
    refine V_seq (fun K5 hK5 => ?_)
    refine V_sr T.mix (by kernel_rfl) (fun K6 hK6 => ?_)
    refine S_mv rfl ?_
    refine S_bin rfl rfl rfl ?_
    refine S_nil (hK6 _ _ (V_keep [0, 9] (by simp only [proj, lk, reduceIte, Nat.reduceEqDiff]; rfl) ?_)); clear hK6
    refine V_condp rfl (fun c10 => ?_) (fun c10 => ?_)
    · skip
      refine V_sr T.mix (by kernel_rfl) (fun K7 hK7 => ?_)
      refine S_mv rfl ?_
      first | refine S_sub rfl rfl (by omega) (by omega) ?_ | refine S_bin rfl rfl rfl ?_
      first | refine S_mul rfl rfl (by omega) (by omega) ?_ | refine S_bin rfl rfl rfl ?_
      first | refine S_add rfl rfl (by omega) (by omega) ?_ | refine S_bin rfl rfl rfl ?_
      refine S_as rfl ?_
      refine S_as rfl ?_
      refine S_nil (hK7 _ _ (V_keep [2, 3] (by simp only [proj, lk, reduceIte, Nat.reduceEqDiff]; rfl) ?_)); clear hK7
      refine V_ret ?_
      refine hR _ _ (ret2 rfl rfl rfl ?_)
      exact ⟨by rw [dB, if_neg (by omega), if_pos (by omega), dM, if_neg (by omega), if_pos (by omega)]; simp; omega, rfl⟩
    · skip
      refine V_skipk [0] (by simp only [proj, lk, reduceIte, Nat.reduceEqDiff]; rfl) ?_
      refine hK5 _ _ ?_; clear hK5
      refine V_sr T.mix (by kernel_rfl) (fun K8 hK8 => ?_)
      refine S_mv rfl ?_
      first | refine S_sub rfl rfl (by omega) (by omega) ?_ | refine S_bin rfl rfl rfl ?_
      first | refine S_mul rfl rfl (by omega) (by omega) ?_ | refine S_bin rfl rfl rfl ?_
      first | refine S_add rfl rfl (by omega) (by omega) ?_ | refine S_bin rfl rfl rfl ?_
      refine S_as rfl ?_
      refine S_as rfl ?_
      refine S_nil (hK8 _ _ (V_keep [2, 3] (by simp only [proj, lk, reduceIte, Nat.reduceEqDiff]; rfl) ?_)); clear hK8
      refine V_ret ?_
      refine hR _ _ (ret2 rfl rfl rfl ?_)
      exact ⟨by rw [dB, if_neg (by omega), if_neg (by omega), dM, if_neg (by omega), if_neg (by omega)]; simp; omega, rfl⟩
set_option maxHeartbeats 400000 in
theorem distcode_spec (h : Heap) (d : Nat) (h1 : 1 ≤ d) (h2 : d ≤ 16) :
    FC Tryz.prog 101 (#[.int .i64 (d : Int)] : Array Value) h fun v h' => v = .int .i64 ((dC d : Nat) : Int) ∧ h = h' := by
  refine FC_of [(0, .int .i64 (d : Int))] Tryz.func101 rfl Tryz.ntmps101 (by simp) rfl (fun R hR => ?_)
  refine V_sr T.mix (by kernel_rfl) (fun K1 hK1 => ?_)
  refine S_as rfl ?_
  refine S_nil (hK1 _ _ (V_keep [0] (by simp only [proj, lk, reduceIte, Nat.reduceEqDiff]; rfl) ?_)); clear hK1
  refine V_seq (fun K2 hK2 => ?_)
  refine V_sr T.mix (by kernel_rfl) (fun K3 hK3 => ?_)
  refine S_mv rfl ?_
  refine S_bin rfl rfl rfl ?_
  refine S_nil (hK3 _ _ (V_keep [0, 4] (by simp only [proj, lk, reduceIte, Nat.reduceEqDiff]; rfl) ?_)); clear hK3
  refine V_condp rfl (fun c18 => ?_) (fun c18 => ?_)
  · skip
    refine V_sr T.mix (by kernel_rfl) (fun K4 hK4 => ?_)
    refine S_mv rfl ?_
    first | refine S_sub rfl rfl (by omega) (by omega) ?_ | refine S_bin rfl rfl rfl ?_
    refine S_as rfl ?_
    refine S_nil (hK4 _ _ (V_keep [2] (by simp only [proj, lk, reduceIte, Nat.reduceEqDiff]; rfl) ?_)); clear hK4
    refine V_ret ?_
    refine hR _ _ (ret1 rfl rfl ?_)
    exact ⟨by unfold dC; rw [if_pos (by omega)]; congr 1; omega, rfl⟩
  · skip
    refine V_skipk [0] (by simp only [proj, lk, reduceIte, Nat.reduceEqDiff]; rfl) ?_
    refine hK2 _ _ ?_; clear hK2
    refine V_seq (fun K5 hK5 => ?_)
    refine V_sr T.mix (by kernel_rfl) (fun K6 hK6 => ?_)
    refine S_mv rfl ?_
    refine S_bin rfl rfl rfl ?_
    refine S_nil (hK6 _ _ (V_keep [0, 8] (by simp only [proj, lk, reduceIte, Nat.reduceEqDiff]; rfl) ?_)); clear hK6
    refine V_condp rfl (fun c21 => ?_) (fun c21 => ?_)
    · skip
      refine V_sr T.mix (by kernel_rfl) (fun K7 hK7 => ?_)
      refine S_mv rfl ?_
      first | refine S_sub rfl rfl (by omega) (by omega) ?_ | refine S_bin rfl rfl rfl ?_
      refine S_quo rfl rfl (by omega) (by omega) (by omega) ?_
      first | refine S_add rfl rfl (by omega) (by omega) ?_ | refine S_bin rfl rfl rfl ?_
      refine S_as rfl ?_
      refine S_nil (hK7 _ _ (V_keep [2] (by simp only [proj, lk, reduceIte, Nat.reduceEqDiff]; rfl) ?_)); clear hK7
      refine V_ret ?_
      refine hR _ _ (ret1 rfl rfl ?_)
      exact ⟨by unfold dC; rw [if_neg (by omega), if_pos (by omega)]; congr 1; omega, rfl⟩
    · skip
      refine V_skipk [0] (by simp only [proj, lk, reduceIte, Nat.reduceEqDiff]; rfl) ?_
      refine hK5 _ _ ?_; clear hK5
      refine V_sr T.mix (by kernel_rfl) (fun K8 hK8 => ?_)
      refine S_mv rfl ?_
      first | refine S_sub rfl rfl (by omega) (by omega) ?_ | refine S_bin rfl rfl rfl ?_
      refine S_quo rfl rfl (by omega) (by omega) (by omega) ?_
      first | refine S_add rfl rfl (by omega) (by omega) ?_ | refine S_bin rfl rfl rfl ?_
      refine S_as rfl ?_
      refine S_nil (hK8 _ _ (V_keep [2] (by simp only [proj, lk, reduceIte, Nat.reduceEqDiff]; rfl) ?_)); clear hK8
      refine V_ret ?_
      refine hR _ _ (ret1 rfl rfl ?_)
      exact ⟨by unfold dC; rw [if_neg (by omega), if_neg (by omega)]; congr 1; omega, rfl⟩
set_option maxHeartbeats 400000 in
theorem fixedlen_spec (h : Heap) (s : Nat) (hs : s < 265) :
    FC Tryz.prog 106 (#[.int .i64 (s : Int)] : Array Value) h fun v h' => v = .int .i64 ((fixL.getD s 0 : Nat) : Int) ∧ h = h' := by
  refine FC_of [(0, .int .i64 (s : Int))] Tryz.func106 rfl Tryz.ntmps106 (by simp) rfl (fun R hR => ?_)
  refine V_sr T.mix (by kernel_rfl) (fun K1 hK1 => ?_)
  refine S_as rfl ?_
  refine S_nil (hK1 _ _ (V_keep [0] (by simp only [proj, lk, reduceIte, Nat.reduceEqDiff]; rfl) ?_)); clear hK1
  refine V_seq (fun K2 hK2 => ?_)
  refine V_sr T.mix (by kernel_rfl) (fun K3 hK3 => ?_)
  refine S_mv rfl ?_
  refine S_bin rfl rfl rfl ?_
  refine S_nil (hK3 _ _ (V_keep [4] (by simp only [proj, lk, reduceIte, Nat.reduceEqDiff]; rfl) ?_)); clear hK3
  refine V_condp rfl (fun c29 => ?_) (fun c29 => ?_)
  · skip
    refine V_sr T.mix (by kernel_rfl) (fun K4 hK4 => ?_)
    refine S_as rfl ?_
    refine S_nil (hK4 _ _ (V_keep [2] (by simp only [proj, lk, reduceIte, Nat.reduceEqDiff]; rfl) ?_)); clear hK4
    refine V_ret ?_
    refine hR _ _ (ret1 rfl rfl ?_)
    exact ⟨by rw [fix_at (by omega), if_pos (by omega)]; rfl, rfl⟩
  · skip
    refine V_skipk [] (by simp only [proj, lk, reduceIte, Nat.reduceEqDiff]; rfl) ?_
    refine hK2 _ _ ?_; clear hK2
    refine V_sr T.mix (by kernel_rfl) (fun K5 hK5 => ?_)
    refine S_as rfl ?_
    refine S_nil (hK5 _ _ (V_keep [2] (by simp only [proj, lk, reduceIte, Nat.reduceEqDiff]; rfl) ?_)); clear hK5
    refine V_ret ?_
    refine hR _ _ (ret1 rfl rfl ?_)
    exact ⟨by rw [fix_at (by omega), if_neg (by omega), if_pos (by omega)]; rfl, rfl⟩
set_option maxHeartbeats 400000 in
theorem lensym_spec (h : Heap) (n : Nat) (hn : n ≤ 1000) :
    FC Tryz.prog 124 (#[.int .i64 (n : Int)] : Array Value) h fun v h' => v = .int .i64 ((n + 254 : Nat) : Int) ∧ h = h' := by
  refine FC_of [(0, .int .i64 (n : Int))] Tryz.func124 rfl Tryz.ntmps124 (by simp) rfl (fun R hR => ?_)
  refine V_sr T.mix (by kernel_rfl) (fun K1 hK1 => ?_)
  refine S_as rfl ?_
  refine S_nil (hK1 _ _ (V_keep [0] (by simp only [proj, lk, reduceIte, Nat.reduceEqDiff]; rfl) ?_)); clear hK1
  refine V_sr T.mix (by kernel_rfl) (fun K2 hK2 => ?_)
  refine S_mv rfl ?_
  first | refine S_add rfl rfl (by omega) (by omega) ?_ | refine S_bin rfl rfl rfl ?_
  first | refine S_sub rfl rfl (by omega) (by omega) ?_ | refine S_bin rfl rfl rfl ?_
  refine S_as rfl ?_
  refine S_nil (hK2 _ _ (V_keep [2] (by simp only [proj, lk, reduceIte, Nat.reduceEqDiff]; rfl) ?_)); clear hK2
  refine V_ret ?_
  refine hR _ _ (ret1 rfl rfl ?_)
  exact ⟨by congr 1; omega, rfl⟩
set_option maxHeartbeats 400000 in
theorem item_spec (h : Heap) (W : WA) (pk : B h W.P (pcs W) 75) (s : TS) (rt : BitW.RT h W.T W.tb s) (hPT : W.P ≠ W.T ∧ W.P ≠ W.tb) (x v more : Nat) (hx : x ≤ 15) (hv : more = 0 → v = 0) (hm : more ≤ 16) (lay : Bool) :
    FC Tryz.prog 159 (#[.pointer (some ⟨W.P, 0, none⟩), .int .i64 (x : Int), .int .i64 (v : Int), .int .i64 (more : Int), .bool (decide (lay = true))] : Array Value) h fun rv h' => rv = .int .i64 ((4 + more : Nat) : Int) ∧ BitW.RT h' W.T W.tb (wl lay s [(x, 4), (v, more)]) ∧ Ext (fun z => z = W.T ∨ z = W.tb) h h' := by
  try clear p0 p1 p2 p3 p4 p5 p6 p7
  obtain ⟨p0, p1, p2, p3, p4, p5, p6, p7⟩ := pq (pk)
  refine FC_of [(0, .pointer (some ⟨W.P, 0, none⟩)), (1, .int .i64 (x : Int)), (2, .int .i64 (v : Int)), (3, .int .i64 (more : Int)), (4, .bool (decide (lay = true)))] Tryz.func159 rfl Tryz.ntmps159 (by simp) rfl (fun R hR => ?_)
  refine V_sr T.mix (by kernel_rfl) (fun K1 hK1 => ?_)
  refine S_as rfl ?_
  refine S_nil (hK1 _ _ (V_keep [0, 1, 2, 3, 4] (by simp only [proj, lk, reduceIte, Nat.reduceEqDiff]; rfl) ?_)); clear hK1
  refine V_seqJ (fun l h' => ∃ (h3 : Heap), (BitW.RT h3 W.T W.tb (wl lay s [(x, 4), (v, more)])) ∧ (Ext (fun z => z = W.T ∨ z = W.tb) h h3) ∧ l = [(3, .int .i64 (more : Int))] ∧ h3 = h') ?_ ?_
  · skip
    refine V_sr T.mix (by kernel_rfl) (fun K3 hK3 => ?_)
    refine S_mv rfl ?_
    refine S_nil (hK3 _ _ (V_keep [0, 1, 2, 3, 11] (by simp only [proj, lk, reduceIte, Nat.reduceEqDiff]; rfl) ?_)); clear hK3
    refine V_condp rfl (fun c21 => ?_) (fun c21 => ?_)
    · skip
      refine V_sr T.mix (by kernel_rfl) (fun K4 hK4 => ?_)
      refine S_mv rfl ?_
      refine S_nc rfl ?_
      first | refine S_fa0 T.f75_0 rfl ?_ | refine S_fa T.f75_0 rfl ?_
      refine S_ldK T.ag47 rfl (fun K' hK' => ?_)
      simp (disch := omega) only [p0, p1, p2, p3, p4, p5, p6, p7, oP_some, Nat.add_zero]
      refine hK' _ ?_; clear hK' K'
      refine S_mv rfl ?_
      refine S_call T.hb96 rfl ?_
      refine FC.mono (BitW.put_spec h W.T W.tb _ rt (x) (4)) ?_
      rintro v' h1 ⟨rfl, rth1, hEh1⟩
      have pkh1 := pk.ext hEh1 (fun e => by rcases e with e | e; (exact hPT.1 e); (exact hPT.2 e))
      try clear p0 p1 p2 p3 p4 p5 p6 p7
      obtain ⟨p0, p1, p2, p3, p4, p5, p6, p7⟩ := pq (pkh1)
      refine S_nil (hK4 _ _ (V_keep [0, 2, 3] (by simp only [proj, lk, reduceIte, Nat.reduceEqDiff]; rfl) ?_)); clear hK4
      refine V_sr T.mix (by kernel_rfl) (fun K5 hK5 => ?_)
      refine S_mv rfl ?_
      refine S_bin rfl rfl rfl ?_
      refine S_nil (hK5 _ _ (V_keep [0, 2, 3, 19] (by simp only [proj, lk, reduceIte, Nat.reduceEqDiff]; rfl) ?_)); clear hK5
      refine V_condp rfl (fun c23 => ?_) (fun c23 => ?_)
      · skip
        refine V_reg T.mix (by kernel_rfl) ?_
        refine S_mv rfl ?_
        refine S_nc rfl ?_
        first | refine S_fa0 T.f75_0 rfl ?_ | refine S_fa T.f75_0 rfl ?_
        refine S_ldK T.ag47 rfl (fun K' hK' => ?_)
        simp (disch := omega) only [p0, p1, p2, p3, p4, p5, p6, p7, oP_some, Nat.add_zero]
        refine hK' _ ?_; clear hK' K'
        refine S_mv rfl ?_
        refine S_mv rfl ?_
        refine S_call T.hb96 rfl ?_
        refine FC.mono (BitW.put_spec h1 W.T W.tb _ rth1 (v) (more)) ?_
        rintro v' h2 ⟨rfl, rth2, hEh2⟩
        have pkh2 := pkh1.ext hEh2 (fun e => by rcases e with e | e; (exact hPT.1 e); (exact hPT.2 e))
        try clear p0 p1 p2 p3 p4 p5 p6 p7
        obtain ⟨p0, p1, p2, p3, p4, p5, p6, p7⟩ := pq (pkh2)
        refine S_nilk [3] (by simp only [proj, lk, reduceIte, Nat.reduceEqDiff]; rfl) ?_
        exact ⟨h2, rth2.eq (wl_it1 (by assumption)), hEh1.trans hEh2, rfl, rfl⟩
      · skip
        refine V_skipk [3] (by simp only [proj, lk, reduceIte, Nat.reduceEqDiff]; rfl) ?_
        exact ⟨h1, rth1.eq (wl_it0 (by assumption) (by assumption) hv rt.ok), hEh1, rfl, rfl⟩
    · skip
      refine V_skipk [3] (by simp only [proj, lk, reduceIte, Nat.reduceEqDiff]; rfl) ?_
      exact ⟨h, rt.eq (wl_no (by assumption)), Ext.refl _ _, rfl, rfl⟩
  rintro l h' ⟨h3, rt3, hE3, rfl, rfl⟩
  refine V_sr T.mix (by kernel_rfl) (fun K6 hK6 => ?_)
  refine S_mv rfl ?_
  first | refine S_add rfl rfl (by omega) (by omega) ?_ | refine S_bin rfl rfl rfl ?_
  refine S_as rfl ?_
  refine S_nil (hK6 _ _ (V_keep [10] (by simp only [proj, lk, reduceIte, Nat.reduceEqDiff]; rfl) ?_)); clear hK6
  refine V_ret ?_
  refine hR _ _ (ret1 rfl rfl ?_)
  exact ⟨by first | rfl | (congr 1; omega), rt3, hE3⟩
set_option maxHeartbeats 400000 in
theorem runi_spec (h : Heap) (W : WA) (pk : B h W.P (pcs W) 75) (s : TS) (rt : BitW.RT h W.T W.tb s) (hPT : W.P ≠ W.T ∧ W.P ≠ W.tb) (prev held : Nat) (h3 : 3 ≤ held) (hh : held ≤ 130) (lay : Bool) :
    FC Tryz.prog 160 (#[.pointer (some ⟨W.P, 0, none⟩), .int .i64 (prev : Int), .int .i64 (held : Int), .bool (decide (lay = true))] : Array Value) h fun rv h' => rv = .int .i64 ((ib [runI prev held] : Nat) : Int) ∧ BitW.RT h' W.T W.tb (wl lay s (ips [runI prev held])) ∧ Ext (fun z => z = W.T ∨ z = W.tb) h h' := by
  try clear p0 p1 p2 p3 p4 p5 p6 p7
  obtain ⟨p0, p1, p2, p3, p4, p5, p6, p7⟩ := pq (pk)
  refine FC_of [(0, .pointer (some ⟨W.P, 0, none⟩)), (1, .int .i64 (prev : Int)), (2, .int .i64 (held : Int)), (3, .bool (decide (lay = true)))] Tryz.func160 rfl Tryz.ntmps160 (by simp) rfl (fun R hR => ?_)
  refine V_sr T.mix (by kernel_rfl) (fun K1 hK1 => ?_)
  refine S_as rfl ?_
  refine S_nil (hK1 _ _ (V_keep [0, 1, 2, 3] (by simp only [proj, lk, reduceIte, Nat.reduceEqDiff]; rfl) ?_)); clear hK1
  refine V_seq (fun K2 hK2 => ?_)
  refine V_sr T.mix (by kernel_rfl) (fun K3 hK3 => ?_)
  refine S_mv rfl ?_
  refine S_bin rfl rfl rfl ?_
  refine S_nil (hK3 _ _ (V_keep [0, 2, 3, 10] (by simp only [proj, lk, reduceIte, Nat.reduceEqDiff]; rfl) ?_)); clear hK3
  refine V_condp rfl (fun c32 => ?_) (fun c32 => ?_)
  · skip
    refine V_sr T.mix (by kernel_rfl) (fun K4 hK4 => ?_)
    refine S_mv rfl ?_
    refine S_mv rfl ?_
    refine S_subN (held - 3) rfl rfl (by omega) (by omega) ?_
    refine S_mv rfl ?_
    refine S_call T.hb159 rfl ?_
    refine FC.mono (item_spec h W pk _ rt hPT (11) (held - 3) (7) (by omega) (by omega) (by omega) lay) ?_
    rintro v' h1 ⟨rfl, rth1, hEh1⟩
    refine S_as rfl ?_
    refine S_nil (hK4 _ _ (V_keep [8] (by simp only [proj, lk, reduceIte, Nat.reduceEqDiff]; rfl) ?_)); clear hK4
    refine V_ret ?_
    refine hR _ _ (ret1 rfl rfl ?_)
    have h0 : prev = 0 := by omega
    have er : runI prev held = (11, held - 3, 7) := by unfold runI; rw [if_pos h0]
    rw [er, ib_one, ips_one]
    exact ⟨rfl, rth1, hEh1⟩
  · skip
    refine V_skipk [0, 2, 3] (by simp only [proj, lk, reduceIte, Nat.reduceEqDiff]; rfl) ?_
    refine hK2 _ _ ?_; clear hK2
    refine V_sr T.mix (by kernel_rfl) (fun K5 hK5 => ?_)
    refine S_mv rfl ?_
    refine S_mv rfl ?_
    refine S_subN (held - 3) rfl rfl (by omega) (by omega) ?_
    refine S_mv rfl ?_
    refine S_call T.hb159 rfl ?_
    refine FC.mono (item_spec h W pk _ rt hPT (12) (held - 3) (2) (by omega) (by omega) (by omega) lay) ?_
    rintro v' h1 ⟨rfl, rth1, hEh1⟩
    refine S_as rfl ?_
    refine S_nil (hK5 _ _ (V_keep [8] (by simp only [proj, lk, reduceIte, Nat.reduceEqDiff]; rfl) ?_)); clear hK5
    refine V_ret ?_
    refine hR _ _ (ret1 rfl rfl ?_)
    have h0 : prev ≠ 0 := by omega
    have er : runI prev held = (12, held - 3, 2) := by unfold runI; rw [if_neg h0]
    rw [er, ib_one, ips_one]
    exact ⟨rfl, rth1, hEh1⟩
set_option maxHeartbeats 400000 in
theorem drain_spec (h : Heap) (W : WA) (pk : B h W.P (pcs W) 75) (s : TS) (rt : BitW.RT h W.T W.tb s) (hPT : W.P ≠ W.T ∧ W.P ≠ W.tb) (pv : Option Nat) (held : Nat) (hn : pv = none → held = 0) (hp : ∀ p, pv = some p → p ≤ 10) (hh : held ≤ 130) (lay : Bool) :
    FC Tryz.prog 158 (#[.pointer (some ⟨W.P, 0, none⟩), .int .i64 (pI pv), .int .i64 (held : Int), .bool (decide (lay = true))] : Array Value) h fun rv h' => rv = .int .i64 ((ib (dro pv held) : Nat) : Int) ∧ BitW.RT h' W.T W.tb (wl lay s (ips (dro pv held))) ∧ Ext (fun z => z = W.T ∨ z = W.tb) h h' := by
  try clear p0 p1 p2 p3 p4 p5 p6 p7
  obtain ⟨p0, p1, p2, p3, p4, p5, p6, p7⟩ := pq (pk)
  refine FC_of [(0, .pointer (some ⟨W.P, 0, none⟩)), (1, .int .i64 (pI pv)), (2, .int .i64 (held : Int)), (3, .bool (decide (lay = true)))] Tryz.func158 rfl Tryz.ntmps158 (by simp) rfl (fun R hR => ?_)
  refine V_sr T.mix (by kernel_rfl) (fun K1 hK1 => ?_)
  refine S_as rfl ?_
  refine S_nil (hK1 _ _ (V_keep [0, 1, 2, 3] (by simp only [proj, lk, reduceIte, Nat.reduceEqDiff]; rfl) ?_)); clear hK1
  refine V_seq (fun K2 hK2 => ?_)
  refine V_sr T.mix (by kernel_rfl) (fun K3 hK3 => ?_)
  refine S_mv rfl ?_
  refine S_bin rfl rfl rfl ?_
  refine S_nil (hK3 _ _ (V_keep [0, 1, 2, 3, 13] (by simp only [proj, lk, reduceIte, Nat.reduceEqDiff]; rfl) ?_)); clear hK3
  refine V_condp rfl (fun c40 => ?_) (fun c40 => ?_)
  · skip
    refine V_sr T.mix (by kernel_rfl) (fun K4 hK4 => ?_)
    refine S_mv rfl ?_
    refine S_mv rfl ?_
    refine S_mv rfl ?_
    refine S_mv rfl ?_
    refine S_call T.hb160 rfl ?_
    obtain ⟨pn, rfl⟩ : ∃ pn, pv = some pn := by cases pv; (have h9 := hn rfl; omega); (exact ⟨_, rfl⟩)
    refine FC.mono (runi_spec h W pk s rt hPT pn held (by omega) hh lay) ?_
    rintro v' h1 ⟨rfl, rth1, hEh1⟩
    refine S_as rfl ?_
    refine S_nil (hK4 _ _ (V_keep [8] (by simp only [proj, lk, reduceIte, Nat.reduceEqDiff]; rfl) ?_)); clear hK4
    refine V_ret ?_
    refine hR _ _ (ret1 rfl rfl ?_)
    have er : dro (some pn) held = [runI pn held] := by show drn pn held = _; unfold drn; rw [if_pos (by omega)]
    rw [er]
    exact ⟨rfl, rth1, hEh1⟩
  · skip
    refine V_skipk [0, 1, 2, 3] (by simp only [proj, lk, reduceIte, Nat.reduceEqDiff]; rfl) ?_
    refine hK2 _ _ ?_; clear hK2
    refine V_sr T.mix (by kernel_rfl) (fun K5 hK5 => ?_)
    refine S_as rfl ?_
    refine S_nil (hK5 _ _ (V_keep [0, 1, 2, 3, 9] (by simp only [proj, lk, reduceIte, Nat.reduceEqDiff]; rfl) ?_)); clear hK5
    refine V_seq (fun K6 hK6 => ?_)
    refine V_sr T.mix (by kernel_rfl) (fun K7 hK7 => ?_)
    refine S_as rfl ?_
    refine S_nil (hK7 _ _ (V_keep [0, 1, 2, 3, 9, 10] (by simp only [proj, lk, reduceIte, Nat.reduceEqDiff]; rfl) ?_)); clear hK7
    refine V_block ?_
    refine V_loop (fun m l h' => ∃ (k : Nat) (hk : Heap), (k ≤ held) ∧ (BitW.RT hk W.T W.tb (wl lay s (ips (List.replicate k ((pI pv).toNat, 0, 0))))) ∧ (Ext (fun z => z = W.T ∨ z = W.tb) h hk) ∧ m = held - k ∧ l = [(0, .pointer (some ⟨W.P, 0, none⟩)), (1, .int .i64 (pI pv)), (2, .int .i64 (held : Int)), (3, .bool (decide (lay = true))), (9, .int .i64 ((4 * k : Nat) : Int)), (10, .int .i64 (k : Int))] ∧ hk = h') _ ⟨0, h, Nat.zero_le _, by rw [List.replicate_zero]; exact rt.eq (wl_nil _ _).symm, Ext.refl _ _, rfl, rfl, rfl⟩ ?_
    rintro m l h' ⟨k, hk, hkh, rtk, hEk, rfl, rfl, rfl⟩ K8 hK8
    refine V_seq (fun K9 hK9 => ?_)
    refine V_sr T.mix (by kernel_rfl) (fun K10 hK10 => ?_)
    refine S_mv rfl ?_
    refine S_mv rfl ?_
    refine S_bin rfl rfl rfl ?_
    refine S_nil (hK10 _ _ (V_keep [0, 1, 2, 3, 9, 10, 21] (by simp only [proj, lk, reduceIte, Nat.reduceEqDiff]; rfl) ?_)); clear hK10
    refine V_condp rfl (fun c44 => ?_) (fun c44 => ?_)
    · skip
      refine V_skipk [0, 1, 2, 3, 9, 10] (by simp only [proj, lk, reduceIte, Nat.reduceEqDiff]; rfl) ?_
      refine hK9 _ _ ?_; clear hK9
      refine V_seq (fun K11 hK11 => ?_)
      refine V_block ?_
      refine V_sr T.mix (by kernel_rfl) (fun K12 hK12 => ?_)
      refine S_mv rfl ?_
      refine S_mv rfl ?_
      refine S_mv rfl ?_
      refine S_call T.hb159 rfl ?_
      obtain ⟨pn, hpn⟩ : ∃ pn, pv = some pn := by cases pv; (have h9 := hn rfl; omega); (exact ⟨_, rfl⟩)
      have hp10 := hp pn hpn
      have hpI : pI pv = (pn : Int) := by rw [hpn]; rfl
      rw [hpI]
      refine FC.mono (item_spec hk W (pk.ext hEk (fun e => by rcases e with e | e; (exact hPT.1 e); (exact hPT.2 e))) _ rtk hPT pn 0 0 (by omega) (fun _ => rfl) (by omega) lay) ?_
      rintro v' h1 ⟨rfl, rth1, hEh1⟩
      refine S_as rfl ?_
      refine S_nil (hK12 _ _ (V_keep [0, 1, 2, 3, 9, 10, 11] (by simp only [proj, lk, reduceIte, Nat.reduceEqDiff]; rfl) ?_)); clear hK12
      refine V_reg T.mix (by kernel_rfl) ?_
      refine S_mv rfl ?_
      refine S_mv rfl ?_
      first | refine S_add rfl rfl (by omega) (by omega) ?_ | refine S_bin rfl rfl rfl ?_
      refine S_as rfl ?_
      refine S_nilk [0, 1, 2, 3, 9, 10] (by simp only [proj, lk, reduceIte, Nat.reduceEqDiff]; rfl) ?_
      refine hK11 _ _ ?_; clear hK11
      refine V_reg T.mix (by kernel_rfl) ?_
      refine S_mv rfl ?_
      first | refine S_add rfl rfl (by omega) (by omega) ?_ | refine S_bin rfl rfl rfl ?_
      refine S_as rfl ?_
      refine S_nilk [0, 1, 2, 3, 9, 10] (by simp only [proj, lk, reduceIte, Nat.reduceEqDiff]; rfl) ?_
      exact hK8 _ _ ⟨_, by omega, k + 1, h1, by omega, rth1.eq (by rw [wl_app, rep_snoc, ips_app, hpI]; rfl), hEk.trans hEh1, rfl, by rw [hpI, show ((4 * (k + 1) : Nat) : Int) = ((4 * k : Nat) : Int) + ((4 + 0 : Nat) : Int) by omega]; rfl, rfl⟩
    · skip
      refine V_exitk [9] rfl (by simp only [proj, lk, reduceIte, Nat.reduceEqDiff]; rfl) ?_
      refine hK6 _ _ ?_; clear hK6
      refine V_sr T.mix (by kernel_rfl) (fun K13 hK13 => ?_)
      refine S_mv rfl ?_
      refine S_as rfl ?_
      refine S_nil (hK13 _ _ (V_keep [8] (by simp only [proj, lk, reduceIte, Nat.reduceEqDiff]; rfl) ?_)); clear hK13
      refine V_ret ?_
      refine hR _ _ (ret1 rfl rfl ?_)
      have hkk : k = held := by omega
      subst hkk
      have er : dro pv k = List.replicate k ((pI pv).toNat, 0, 0) := by cases pv; (rw [hn rfl]; rfl); (show drn _ k = _; unfold drn; rw [if_neg (by omega)]; rfl)
      rw [er, ib_rep]
      exact ⟨rfl, rtk, hEk⟩
set_option maxHeartbeats 1600000 in
theorem list_spec (h : Heap) (W : WA) (pk : B h W.P (pcs W) 75) (s : TS) (rt : BitW.RT h W.T W.tb s) (hPT : W.P ≠ W.T ∧ W.P ≠ W.tb) (pl : Nat → Nat) (bpl : B h (W.P + 2) (ia 273 pl) 3) (hpl : ∀ i, i < 273 → pl i ≤ 10) (hP2 : W.P + 2 ≠ W.T ∧ W.P + 2 ≠ W.tb) (lay : Bool) :
    FC Tryz.prog 127 (#[.pointer (some ⟨W.P, 0, none⟩), .bool (decide (lay = true))] : Array Value) h fun rv h' => rv = .int .i64 ((ib (itG none (ra 273 pl)) : Nat) : Int) ∧ BitW.RT h' W.T W.tb (wl lay s (ips (itG none (ra 273 pl)))) ∧ Ext (fun z => z = W.T ∨ z = W.tb) h h' := by
  have hmi := mac_is (ra 273 pl)
  have hio := (itG_ok 273 (ra 273 pl) none (by rw [ra_len]; exact Nat.le_refl _) (fun x hx => by simp only [ra, List.mem_map, List.mem_range] at hx; obtain ⟨j, hj, e⟩ := hx; rw [← e]; exact hpl j hj)).2
  rw [ra_len, ← hmi] at hio
  have nT : ∀ z, ¬ (z = W.T ∨ z = W.tb) ↔ z ≠ W.T ∧ z ≠ W.tb := fun z => not_or
  refine FC_of [(0, .pointer (some ⟨W.P, 0, none⟩)), (1, .bool (decide (lay = true)))] Tryz.func127 rfl Tryz.ntmps127 (by simp) rfl (fun R hR => ?_)
  refine V_sr T.mix (by kernel_rfl) (fun K1 hK1 => ?_)
  refine S_as rfl ?_
  refine S_nil (hK1 _ _ (V_keep [0, 1] (by simp only [proj, lk, reduceIte, Nat.reduceEqDiff]; rfl) ?_)); clear hK1
  refine V_sr T.mix (by kernel_rfl) (fun K2 hK2 => ?_)
  refine S_as rfl ?_
  refine S_nil (hK2 _ _ (V_keep [0, 1, 5] (by simp only [proj, lk, reduceIte, Nat.reduceEqDiff]; rfl) ?_)); clear hK2
  refine V_sr T.mix (by kernel_rfl) (fun K3 hK3 => ?_)
  refine S_as rfl ?_
  refine S_nil (hK3 _ _ (V_keep [0, 1, 5, 6] (by simp only [proj, lk, reduceIte, Nat.reduceEqDiff]; rfl) ?_)); clear hK3
  refine V_sr T.mix (by kernel_rfl) (fun K4 hK4 => ?_)
  refine S_as rfl ?_
  refine S_nil (hK4 _ _ (V_keep [0, 1, 5, 6, 7] (by simp only [proj, lk, reduceIte, Nat.reduceEqDiff]; rfl) ?_)); clear hK4
  refine V_seq (fun K5 hK5 => ?_)
  refine V_sr T.mix (by kernel_rfl) (fun K6 hK6 => ?_)
  refine S_as rfl ?_
  refine S_nil (hK6 _ _ (V_keep [0, 1, 5, 6, 7, 8] (by simp only [proj, lk, reduceIte, Nat.reduceEqDiff]; rfl) ?_)); clear hK6
  refine V_block ?_
  refine V_loop (fun m l h' => ∃ (i : Nat) (hk : Heap) (pv : Option Nat) (held : Nat) (I : List (Nat × Nat × Nat)), (i ≤ 273) ∧ (pv = none → held = 0) ∧ (∀ p, pv = some p → p ≤ 10) ∧ (held < 130 ∧ ∀ p, pv = some p → p ≠ 0 → held < 6) ∧ (I ++ mac pv held ((ra 273 pl).drop i) = mac none 0 (ra 273 pl)) ∧ (BitW.RT hk W.T W.tb (wl lay s (ips I))) ∧ (Ext (fun z => z = W.T ∨ z = W.tb) h hk) ∧ m = 273 - i ∧ l = [(0, .pointer (some ⟨W.P, 0, none⟩)), (1, .bool (decide (lay = true))), (5, .int .i64 (pI pv)), (6, .int .i64 (held : Int)), (7, .int .i64 ((ib I : Nat) : Int)), (8, .int .i64 (i : Int))] ∧ hk = h') _ ⟨0, h, none, 0, [], Nat.zero_le _, fun _ => rfl, fun p e => (by cases e), ⟨by omega, fun p e => (by cases e)⟩, rfl, rt.eq (wl_nil _ _).symm, Ext.refl _ _, rfl, rfl, rfl⟩ ?_
  rintro m l h' ⟨i, hk, pv, held, I, hi, hn, hp, hh, hI, rtk, hEk, rfl, rfl, rfl⟩ K7 hK7
  have pkk := pk.ext hEk ((nT _).2 hPT)
  try clear p0 p1 p2 p3 p4 p5 p6 p7
  obtain ⟨p0, p1, p2, p3, p4, p5, p6, p7⟩ := pq (pkk)
  have apl := ia_at (bpl.ext hEk ((nT _).2 hP2))
  have hib : ib I + ib (mac pv held ((ra 273 pl).drop i)) ≤ 1092 := by rw [← ib_app, hI]; exact hio
  refine V_seq (fun K8 hK8 => ?_)
  refine V_sr T.mix (by kernel_rfl) (fun K9 hK9 => ?_)
  refine S_mv rfl ?_
  refine S_bin rfl rfl rfl ?_
  refine S_nil (hK9 _ _ (V_keep [0, 1, 5, 6, 7, 8, 13] (by simp only [proj, lk, reduceIte, Nat.reduceEqDiff]; rfl) ?_)); clear hK9
  refine V_condp rfl (fun c56 => ?_) (fun c56 => ?_)
  · skip
    have hpi := hpl i (by omega)
    have hdr := ra_drop (n := 273) (f := pl) (i := i) (by omega)
    refine V_skipk [0, 1, 5, 6, 7, 8] (by simp only [proj, lk, reduceIte, Nat.reduceEqDiff]; rfl) ?_
    refine hK8 _ _ ?_; clear hK8
    refine V_seq (fun K10 hK10 => ?_)
    refine V_block ?_
    refine V_sr T.mix (by kernel_rfl) (fun K11 hK11 => ?_)
    refine S_mv rfl ?_
    refine S_nc rfl ?_
    first | refine S_fa0 T.f75_5 rfl ?_ | refine S_fa T.f75_5 rfl ?_
    refine S_ldK T.ag56 rfl (fun K' hK' => ?_)
    simp (disch := omega) only [p0, p1, p2, p3, p4, p5, p6, p7, apl, oP_some, Nat.add_zero]
    refine hK' _ ?_; clear hK' K'
    refine S_mv rfl ?_
    first | refine S_ixn T.el56 rfl rfl (by omega) ?_ | refine S_ix1 T.el56 rfl rfl (by omega) (by omega) ?_ | refine S_ix T.el56 rfl rfl (by omega) (by omega) ?_
    refine S_ldK T.ag3 rfl (fun K' hK' => ?_)
    simp (disch := omega) only [p0, p1, p2, p3, p4, p5, p6, p7, apl, oP_some, Nat.add_zero]
    refine hK' _ ?_; clear hK' K'
    refine S_as rfl ?_
    refine S_nil (hK11 _ _ (V_keep [0, 1, 5, 6, 7, 8, 9] (by simp only [proj, lk, reduceIte, Nat.reduceEqDiff]; rfl) ?_)); clear hK11
    refine V_sr T.mix (by kernel_rfl) (fun K12 hK12 => ?_)
    refine S_as rfl ?_
    refine S_nil (hK12 _ _ (V_keep [0, 1, 5, 6, 7, 8, 9] (by simp only [proj, lk, reduceIte, Nat.reduceEqDiff]; rfl) ?_)); clear hK12
    refine V_sr T.mix (by kernel_rfl) (fun K13 hK13 => ?_)
    refine S_mv rfl ?_
    refine S_mv rfl ?_
    refine S_bin rfl rfl rfl ?_
    refine S_nil (hK13 _ _ (V_keep [0, 1, 5, 6, 7, 8, 9, 25] (by simp only [proj, lk, reduceIte, Nat.reduceEqDiff]; rfl) ?_)); clear hK13
    refine V_condp rfl (fun c59 => ?_) (fun c59 => ?_)
    · skip
      have hin : ib (dro pv held) ≤ 1092 := by have h9 := hib; rw [hdr, mac_new (Ne.symm c59), ib_app] at h9; omega
      refine V_sr T.mix (by kernel_rfl) (fun K14 hK14 => ?_)
      refine S_mv rfl ?_
      refine S_mv rfl ?_
      refine S_mv rfl ?_
      refine S_mv rfl ?_
      refine S_call T.hb158 rfl ?_
      refine FC.mono (drain_spec hk W pkk _ rtk hPT pv held hn hp (by omega) lay) ?_
      rintro v' h1 ⟨rfl, rth1, hEh1⟩
      have pk1 := pkk.ext hEh1 ((nT _).2 hPT)
      refine S_as rfl ?_
      refine S_nil (hK14 _ _ (V_keep [0, 1, 7, 8, 9, 10] (by simp only [proj, lk, reduceIte, Nat.reduceEqDiff]; rfl) ?_)); clear hK14
      refine V_sr T.mix (by kernel_rfl) (fun K15 hK15 => ?_)
      refine S_mv rfl ?_
      refine S_mv rfl ?_
      first | refine S_add rfl rfl (by omega) (by omega) ?_ | refine S_bin rfl rfl rfl ?_
      refine S_as rfl ?_
      refine S_nil (hK15 _ _ (V_keep [0, 1, 7, 8, 9] (by simp only [proj, lk, reduceIte, Nat.reduceEqDiff]; rfl) ?_)); clear hK15
      refine V_sr T.mix (by kernel_rfl) (fun K16 hK16 => ?_)
      refine S_mv rfl ?_
      refine S_as rfl ?_
      refine S_nil (hK16 _ _ (V_keep [0, 1, 5, 7, 8, 9] (by simp only [proj, lk, reduceIte, Nat.reduceEqDiff]; rfl) ?_)); clear hK16
      refine V_sr T.mix (by kernel_rfl) (fun K17 hK17 => ?_)
      refine S_as rfl ?_
      refine S_nil (hK17 _ _ (V_keep [0, 1, 5, 6, 7, 8, 9] (by simp only [proj, lk, reduceIte, Nat.reduceEqDiff]; rfl) ?_)); clear hK17
      refine V_sr T.mix (by kernel_rfl) (fun K18 hK18 => ?_)
      refine S_mv rfl ?_
      refine S_bin rfl rfl rfl ?_
      refine S_nil (hK18 _ _ (V_keep [0, 1, 5, 6, 7, 8, 9, 36] (by simp only [proj, lk, reduceIte, Nat.reduceEqDiff]; rfl) ?_)); clear hK18
      refine V_condp rfl (fun c64 => ?_) (fun c64 => ?_)
      · skip
        have hx0 : pl i = 0 := by omega
        refine V_reg T.mix (by kernel_rfl) ?_
        refine S_as rfl ?_
        refine S_nilk [0, 1, 5, 6, 7, 8] (by simp only [proj, lk, reduceIte, Nat.reduceEqDiff]; rfl) ?_
        refine hK10 _ _ ?_; clear hK10
        refine V_reg T.mix (by kernel_rfl) ?_
        refine S_mv rfl ?_
        first | refine S_add rfl rfl (by omega) (by omega) ?_ | refine S_bin rfl rfl rfl ?_
        refine S_as rfl ?_
        refine S_nilk [0, 1, 5, 6, 7, 8] (by simp only [proj, lk, reduceIte, Nat.reduceEqDiff]; rfl) ?_
        rw [hdr, mac_new (Ne.symm c59), if_pos hx0] at hI
        exact hK7 _ _ ⟨_, by omega, i + 1, h1, some 0, 1, I ++ dro pv held, by omega, fun e => (by cases e), fun p e => (by cases e; omega), ⟨by omega, fun p e z => (by cases e; exact absurd rfl z)⟩, by rw [List.append_assoc]; exact hI, rth1.eq (by rw [wl_app, ips_app]), hEk.trans hEh1, rfl, by rw [ib_app, hx0]; rfl, rfl⟩
      · skip
        have hx0 : pl i ≠ 0 := by omega
        have hin2 : ib I + ib (dro pv held) + 4 ≤ 1092 := by have h9 := hib; rw [hdr, mac_new (Ne.symm c59), ib_app, if_neg hx0, ib] at h9; simp only [] at h9; omega
        refine V_sr T.mix (by kernel_rfl) (fun K19 hK19 => ?_)
        refine S_mv rfl ?_
        refine S_mv rfl ?_
        refine S_mv rfl ?_
        refine S_call T.hb159 rfl ?_
        refine FC.mono (item_spec h1 W pk1 _ rth1 hPT (pl i) 0 0 (by omega) (fun _ => rfl) (by omega) lay) ?_
        rintro v' h2 ⟨rfl, rth2, hEh2⟩
        refine S_as rfl ?_
        refine S_nil (hK19 _ _ (V_keep [0, 1, 5, 6, 7, 8, 10] (by simp only [proj, lk, reduceIte, Nat.reduceEqDiff]; rfl) ?_)); clear hK19
        refine V_reg T.mix (by kernel_rfl) ?_
        refine S_mv rfl ?_
        refine S_mv rfl ?_
        first | refine S_add rfl rfl (by omega) (by omega) ?_ | refine S_bin rfl rfl rfl ?_
        refine S_as rfl ?_
        refine S_nilk [0, 1, 5, 6, 7, 8] (by simp only [proj, lk, reduceIte, Nat.reduceEqDiff]; rfl) ?_
        refine hK10 _ _ ?_; clear hK10
        refine V_reg T.mix (by kernel_rfl) ?_
        refine S_mv rfl ?_
        first | refine S_add rfl rfl (by omega) (by omega) ?_ | refine S_bin rfl rfl rfl ?_
        refine S_as rfl ?_
        refine S_nilk [0, 1, 5, 6, 7, 8] (by simp only [proj, lk, reduceIte, Nat.reduceEqDiff]; rfl) ?_
        rw [hdr, mac_new (Ne.symm c59), if_neg hx0] at hI
        exact hK7 _ _ ⟨_, by omega, i + 1, h2, some (pl i), 0, I ++ (dro pv held ++ [(pl i, 0, 0)]), by omega, fun e => (by cases e), fun p e => (by cases e; exact hpi), ⟨by omega, fun p e z => by omega⟩, by rw [List.append_assoc, List.append_assoc]; exact hI, rth2.eq (by rw [wl_app, wl_app, ips_app, ips_app]; rfl), (hEk.trans hEh1).trans hEh2, rfl, by rw [ib_app, ib_app, ib_one, ← Nat.add_assoc]; rfl, rfl⟩
    · skip
      obtain rfl : pv = some (pl i) := by cases pv; (exfalso; exact c59 (by simp only [pI]; omega)); (congr 1; have h9 := Classical.not_not.1 c59; simp only [pI] at h9; omega)
      have hh6 := hh.2 (pl i) rfl
      simp only [pI]
      refine V_sr T.mix (by kernel_rfl) (fun K20 hK20 => ?_)
      refine S_mv rfl ?_
      first | refine S_add rfl rfl (by omega) (by omega) ?_ | refine S_bin rfl rfl rfl ?_
      refine S_as rfl ?_
      refine S_nil (hK20 _ _ (V_keep [0, 1, 5, 6, 7, 8] (by simp only [proj, lk, reduceIte, Nat.reduceEqDiff]; rfl) ?_)); clear hK20
      refine V_sr T.mix (by kernel_rfl) (fun K21 hK21 => ?_)
      refine S_cut (K' := fun l h' => ∃ b : Bool, (b = true ↔ ((pl i = 0 ∧ held + 1 = 130) ∨ (pl i ≠ 0 ∧ held + 1 = 6))) ∧ l = [(0, .pointer (some ⟨W.P, 0, none⟩)), (1, .bool (decide (lay = true))), (5, .int .i64 (pl i : Int)), (6, .int .i64 ((held : Int) + 1)), (7, .int .i64 ((ib I : Nat) : Int)), (8, .int .i64 (i : Int)), (59, .bool b)] ∧ hk = h') ?_ ?_
      · skip
        refine S_mv rfl ?_
        refine S_bin rfl rfl rfl ?_
        refine S_mv rfl ?_
        refine S_dec (fun g72 => ?_) (fun g72 => ?_)
        · skip
          refine S_gt rfl ?_
          refine S_mv rfl ?_
          refine S_gt rfl ?_
          refine S_bin rfl rfl rfl ?_
          refine S_pt rfl rfl ?_
          refine S_mv rfl ?_
          refine S_dec (fun g72a => ?_) (fun g72a => ?_)
          · skip
            refine S_gf rfl ?_
            refine S_gf rfl ?_
            refine S_gf rfl ?_
            refine S_gf rfl ?_
            refine S_gf rfl ?_
            refine S_gf rfl ?_
            refine S_pt rfl rfl ?_
            exact S_nilk [0, 1, 5, 6, 7, 8, 59] (by simp only [proj, lk, reduceIte, Nat.reduceEqDiff]; rfl) ⟨_, (by first | (simp only [decide_eq_true_eq]; omega) | (simp; omega)), rfl, rfl⟩
          · skip
            refine S_gt rfl ?_
            refine S_mv rfl ?_
            refine S_gt rfl ?_
            refine S_bin rfl rfl rfl ?_
            refine S_gt rfl ?_
            refine S_mv rfl ?_
            refine S_dec (fun g72b => ?_) (fun g72b => ?_)
            · skip
              refine S_gt rfl ?_
              refine S_mv rfl ?_
              refine S_gt rfl ?_
              refine S_bin rfl rfl rfl ?_
              refine S_gt rfl ?_
              refine S_pt rfl rfl ?_
              refine S_pf rfl rfl ?_
              exact S_nilk [0, 1, 5, 6, 7, 8, 59] (by simp only [proj, lk, reduceIte, Nat.reduceEqDiff]; rfl) ⟨_, (by first | (simp only [decide_eq_true_eq]; omega) | (simp; omega)), rfl, rfl⟩
            · skip
              refine S_gf rfl ?_
              refine S_gf rfl ?_
              refine S_gt rfl ?_
              refine S_pf rfl rfl ?_
              refine S_pf rfl rfl ?_
              exact S_nilk [0, 1, 5, 6, 7, 8, 59] (by simp only [proj, lk, reduceIte, Nat.reduceEqDiff]; rfl) ⟨_, (by first | (simp only [decide_eq_true_eq]; omega) | (simp; omega)), rfl, rfl⟩
        · skip
          refine S_gf rfl ?_
          refine S_gf rfl ?_
          refine S_pf rfl rfl ?_
          refine S_mv rfl ?_
          refine S_gt rfl ?_
          refine S_mv rfl ?_
          refine S_gt rfl ?_
          refine S_bin rfl rfl rfl ?_
          refine S_gt rfl ?_
          refine S_mv rfl ?_
          refine S_dec (fun g72c => ?_) (fun g72c => ?_)
          · skip
            refine S_gt rfl ?_
            refine S_mv rfl ?_
            refine S_gt rfl ?_
            refine S_bin rfl rfl rfl ?_
            refine S_gt rfl ?_
            refine S_pt rfl rfl ?_
            refine S_pf rfl rfl ?_
            exact S_nilk [0, 1, 5, 6, 7, 8, 59] (by simp only [proj, lk, reduceIte, Nat.reduceEqDiff]; rfl) ⟨_, (by first | (simp only [decide_eq_true_eq]; omega) | (simp; omega)), rfl, rfl⟩
          · skip
            refine S_gf rfl ?_
            refine S_gf rfl ?_
            refine S_gt rfl ?_
            refine S_pf rfl rfl ?_
            refine S_pf rfl rfl ?_
            exact S_nilk [0, 1, 5, 6, 7, 8, 59] (by simp only [proj, lk, reduceIte, Nat.reduceEqDiff]; rfl) ⟨_, (by first | (simp only [decide_eq_true_eq]; omega) | (simp; omega)), rfl, rfl⟩
      rintro l h' ⟨b, hb72, rfl, rfl⟩
      refine hK21 _ _ ?_; clear hK21
      refine V_condb rfl (fun c72 => ?_) (fun c72 => ?_)
      · replace c72 := hb72.1 c72
        refine V_sr T.mix (by kernel_rfl) (fun K23 hK23 => ?_)
        refine S_mv rfl ?_
        refine S_mv rfl ?_
        refine S_mv rfl ?_
        refine S_mv rfl ?_
        refine S_call T.hb160 rfl ?_
        have hin3 : ib I + ib [runI (pl i) (held + 1)] ≤ 1092 := by have h9 := hib; rw [hdr, mac_run c72, ib] at h9; rw [ib_one]; omega
        refine FC.mono (runi_spec hk W pkk _ rtk hPT (pl i) (held + 1) (by omega) (by omega) lay) ?_
        rintro v' h1 ⟨rfl, rth1, hEh1⟩
        refine S_as rfl ?_
        refine S_nil (hK23 _ _ (V_keep [0, 1, 5, 7, 8, 10] (by simp only [proj, lk, reduceIte, Nat.reduceEqDiff]; rfl) ?_)); clear hK23
        refine V_sr T.mix (by kernel_rfl) (fun K24 hK24 => ?_)
        refine S_mv rfl ?_
        refine S_mv rfl ?_
        first | refine S_add rfl rfl (by omega) (by omega) ?_ | refine S_bin rfl rfl rfl ?_
        refine S_as rfl ?_
        refine S_nil (hK24 _ _ (V_keep [0, 1, 5, 7, 8] (by simp only [proj, lk, reduceIte, Nat.reduceEqDiff]; rfl) ?_)); clear hK24
        refine V_reg T.mix (by kernel_rfl) ?_
        refine S_as rfl ?_
        refine S_nilk [0, 1, 5, 6, 7, 8] (by simp only [proj, lk, reduceIte, Nat.reduceEqDiff]; rfl) ?_
        refine hK10 _ _ ?_; clear hK10
        refine V_reg T.mix (by kernel_rfl) ?_
        refine S_mv rfl ?_
        first | refine S_add rfl rfl (by omega) (by omega) ?_ | refine S_bin rfl rfl rfl ?_
        refine S_as rfl ?_
        refine S_nilk [0, 1, 5, 6, 7, 8] (by simp only [proj, lk, reduceIte, Nat.reduceEqDiff]; rfl) ?_
        rw [hdr, mac_run c72] at hI
        exact hK7 _ _ ⟨_, by omega, i + 1, h1, some (pl i), 0, I ++ [runI (pl i) (held + 1)], by omega, fun e => (by cases e), fun p e => (by cases e; exact hpi), ⟨by omega, fun p e z => by omega⟩, by rw [List.append_assoc]; exact hI, rth1.eq (by rw [wl_app, ips_app]), hEk.trans hEh1, rfl, by rw [ib_app]; rfl, rfl⟩
      · replace c72 : ¬ _ := fun hp => Bool.false_ne_true (c72.symm.trans (hb72.2 hp))
        refine V_skipk [0, 1, 5, 6, 7, 8] (by simp only [proj, lk, reduceIte, Nat.reduceEqDiff]; rfl) ?_
        refine hK10 _ _ ?_; clear hK10
        refine V_reg T.mix (by kernel_rfl) ?_
        refine S_mv rfl ?_
        first | refine S_add rfl rfl (by omega) (by omega) ?_ | refine S_bin rfl rfl rfl ?_
        refine S_as rfl ?_
        refine S_nilk [0, 1, 5, 6, 7, 8] (by simp only [proj, lk, reduceIte, Nat.reduceEqDiff]; rfl) ?_
        rw [hdr, mac_held c72] at hI
        exact hK7 _ _ ⟨_, by omega, i + 1, hk, some (pl i), held + 1, I, by omega, fun e => (by cases e), fun p e => (by cases e; exact hpi), ⟨by omega, fun p e z => (by cases e; omega)⟩, hI, rtk, hEk, rfl, rfl, rfl⟩
  · skip
    have hi3 : i = 273 := by omega
    rw [hi3, ra_end, mac_end] at hI
    have hin : ib I + ib (dro pv held) ≤ 1092 := by rw [← ib_app, hI]; exact hio
    refine V_exitk [0, 1, 5, 6, 7] rfl (by simp only [proj, lk, reduceIte, Nat.reduceEqDiff]; rfl) ?_
    refine hK5 _ _ ?_; clear hK5
    refine V_sr T.mix (by kernel_rfl) (fun K25 hK25 => ?_)
    refine S_mv rfl ?_
    refine S_mv rfl ?_
    refine S_mv rfl ?_
    refine S_mv rfl ?_
    refine S_call T.hb158 rfl ?_
    refine FC.mono (drain_spec hk W pkk _ rtk hPT pv held hn hp (by omega) lay) ?_
    rintro v' h1 ⟨rfl, rth1, hEh1⟩
    refine S_as rfl ?_
    refine S_nil (hK25 _ _ (V_keep [7, 11] (by simp only [proj, lk, reduceIte, Nat.reduceEqDiff]; rfl) ?_)); clear hK25
    refine V_sr T.mix (by kernel_rfl) (fun K26 hK26 => ?_)
    refine S_mv rfl ?_
    refine S_mv rfl ?_
    first | refine S_add rfl rfl (by omega) (by omega) ?_ | refine S_bin rfl rfl rfl ?_
    refine S_as rfl ?_
    refine S_nil (hK26 _ _ (V_keep [4] (by simp only [proj, lk, reduceIte, Nat.reduceEqDiff]; rfl) ?_)); clear hK26
    refine V_ret ?_
    refine hR _ _ (ret1 rfl rfl ?_)
    rw [← hmi, ← hI, ib_app, ips_app]
    exact ⟨rfl, rth1.eq (by rw [wl_app]), hEk.trans hEh1⟩
end Go.Proofs.Qxb6500404aGreat
