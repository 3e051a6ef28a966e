import Derived.Test.Qxb6500409aGreatBc
import Derived.Test.Qxb6500409aGreatCd
import Derived.Test.Qxb6500409aGreatXk
import Derived.Test.Qxb6500409aGreatNe
set_option linter.unusedVariables false
set_option linter.unusedSimpArgs false
namespace Go.Proofs.Qxb6500409aGreat
open Go.Eng Go.Bits Go.Blk HufW

/-! ### the real packer in the heap -/
structure WA where
  T : Nat
  tb : Nat
  XA : Nat
  XB : Nat
  Z : LzW.MA
  P : Nat
def pcs (W : WA) : Array Value := #[.pointer (some ⟨W.T, 0, none⟩), .pointer (some ⟨W.XA, 0, none⟩), .pointer (some ⟨W.XB, 0, none⟩), .pointer (some ⟨W.Z.m, 0, none⟩), .slice (some ⟨W.P + 1, 0, none⟩) 273 273, .slice (some ⟨W.P + 2, 0, none⟩) 273 273, .slice (some ⟨W.P + 3, 0, none⟩) 273 273, .slice (some ⟨W.P + 4, 0, none⟩) 273 273]
theorem pq {h : Heap} {W : WA} (hB : B h W.P (pcs W) 0) : cellH h ⟨W.P, 0, none⟩ = some (.pointer (some ⟨W.T, 0, none⟩)) ∧ cellH h ⟨W.P, 1, none⟩ = some (.pointer (some ⟨W.XA, 0, none⟩)) ∧ cellH h ⟨W.P, 2, none⟩ = some (.pointer (some ⟨W.XB, 0, none⟩)) ∧ cellH h ⟨W.P, 3, none⟩ = some (.pointer (some ⟨W.Z.m, 0, none⟩)) ∧ cellH h ⟨W.P, 4, none⟩ = some (.slice (some ⟨W.P + 1, 0, none⟩) 273 273) ∧ cellH h ⟨W.P, 5, none⟩ = some (.slice (some ⟨W.P + 2, 0, none⟩) 273 273) ∧ cellH h ⟨W.P, 6, none⟩ = some (.slice (some ⟨W.P + 3, 0, none⟩) 273 273) ∧ cellH h ⟨W.P, 7, none⟩ = some (.slice (some ⟨W.P + 4, 0, none⟩) 273 273) := ⟨hB.cell 0, hB.cell 1, hB.cell 2, hB.cell 3, hB.cell 4, hB.cell 5, hB.cell 6, hB.cell 7⟩
/-- laid or only counted -/
def wl (lay : Bool) (s : TS) (l : List (Nat × Nat)) : TS := if lay = true then wr s l else s
theorem wl_app (lay : Bool) (s : TS) (a b : List (Nat × Nat)) : wl lay (wl lay s a) b = wl lay s (a ++ b) := by
  unfold wl; split
  · rw [wr_app]
  · rfl
theorem wl_nil (lay : Bool) (s : TS) : wl lay s [] = s := by unfold wl; split <;> rfl
theorem wr_two (s : TS) (a b : Nat × Nat) : wr s [a, b] = putS (putS s a.1 a.2) b.1 b.2 := rfl
theorem wl_it0 {lay : Bool} {s : TS} {x v more : Nat} (hl : lay = true) (h0 : ¬ (0 : Int) < more) (hv : more = 0 → v = 0) (hok : OK s) : putS s (x : Int) 4 = wl lay s [(x, 4), (v, more)] := by
  unfold wl
  rw [if_pos hl, wr_two]
  obtain rfl : more = 0 := by omega
  rw [hv rfl]
  exact (put_0 (hok.put _ _)).symm
theorem wl_it1 {lay : Bool} {s : TS} {x v more : Nat} (hl : lay = true) : putS (putS s (x : Int) 4) (v : Int) (more : Int) = wl lay s [(x, 4), (v, more)] := by
  unfold wl; rw [if_pos hl]; rfl
theorem wl_no {lay : Bool} {s : TS} {l : List (Nat × Nat)} (hl : ¬ lay = true) : s = wl lay s l := by unfold wl; rw [if_neg hl]
def pI : Option Nat → Int
  | none => -1
  | some p => p
def dro (pv : Option Nat) (held : Nat) : List (Nat × Nat × Nat) := match pv with
  | none => []
  | some p => drn p held
theorem ib_one (q : Nat × Nat × Nat) : ib [q] = 4 + q.2.2 := rfl
theorem ips_one (q : Nat × Nat × Nat) : ips [q] = [(q.1, 4), (q.2.1, q.2.2)] := rfl
theorem ib_rep (k x : Nat) : ib (List.replicate k (x, 0, 0)) = 4 * k := by
  induction k with
  | zero => rfl
  | succ k ih => rw [List.replicate_succ, ib, ih]; simp only []; omega
theorem rep_snoc {α : Type} (k : Nat) (x : α) : List.replicate (k + 1) x = List.replicate k x ++ [x] := List.replicate_succ'
/-- the numbers below 273 as a list -/
def ra (n : Nat) (f : Nat → Nat) : List Nat := (List.range n).map f
theorem ra_len (n : Nat) (f : Nat → Nat) : (ra n f).length = n := by simp [ra]
theorem ra_at {n : Nat} {f : Nat → Nat} {i : Nat} (h : i < n) : (ra n f).getD i 0 = f i := by simp [ra, h]
theorem ra_drop {n : Nat} {f : Nat → Nat} {i : Nat} (h : i < n) : (ra n f).drop i = f i :: (ra n f).drop (i + 1) := by
  rw [List.drop_eq_getElem_cons (by rw [ra_len]; exact h)]; simp [ra]
theorem ra_end {n : Nat} {f : Nat → Nat} : (ra n f).drop n = [] := List.drop_of_length_le (by rw [ra_len]; exact Nat.le_refl _)
theorem mac_end (pv : Option Nat) (held : Nat) : mac pv held [] = dro pv held := by cases pv <;> rfl
theorem mac_new {pv : Option Nat} {held x : Nat} {t : List Nat} (h : pI pv ≠ x) : mac pv held (x :: t) = dro pv held ++ (if x = 0 then mac (some 0) 1 t else (x, 0, 0) :: mac (some x) 0 t) := by
  cases pv with
  | none => rfl
  | some p => rw [mac, if_neg (fun e => h (by rw [e]; rfl))]; rfl
theorem mac_run {p held : Nat} {t : List Nat} (h : (p = 0 ∧ held + 1 = 130) ∨ (p ≠ 0 ∧ held + 1 = 6)) : mac (some p) held (p :: t) = runI p (held + 1) :: mac (some p) 0 t := by
  rw [mac, if_pos rfl, if_pos h]
theorem mac_held {p held : Nat} {t : List Nat} (h : ¬ ((p = 0 ∧ held + 1 = 130) ∨ (p ≠ 0 ∧ held + 1 = 6))) : mac (some p) held (p :: t) = mac (some p) (held + 1) t := by
  rw [mac, if_pos rfl, if_neg h]
set_option maxHeartbeats 400000 in
theorem distbase_spec (h : Heap) (c : Nat) (hc : c < 8) :
    FC Tryz.prog 72 (#[.int .i64 (c : Int)] : Array Value) h fun v h' => v = .tuple #[.int .i64 ((dB c : Nat) : Int), .int .i64 ((dM c : Nat) : Int)] ∧ h = h' := by
  refine FC_of [(0, .int .i64 (c : Int))] Tryz.func72 rfl Tryz.ntmps72 (by simp) rfl (fun R hR => ?_)
  refine V_sr T.mix (by kernel_rfl) (fun K1 hK1 => ?_)
  refine S_as rfl ?_
  refine S_as rfl ?_
  refine S_nil (hK1 _ _ (V_keep [0] (by simp only [proj, lk, reduceIte, Nat.reduceEqDiff]; rfl) ?_)); clear hK1
  refine V_seq (fun K2 hK2 => ?_)
  refine V_sr T.mix (by kernel_rfl) (fun K3 hK3 => ?_)
  refine S_mv rfl ?_
  refine S_bin rfl rfl rfl ?_
  refine S_nil (hK3 _ _ (V_keep [0, 5] (by simp only [proj, lk, reduceIte, Nat.reduceEqDiff]; rfl) ?_)); clear hK3
  refine V_condp rfl (fun c7 => ?_) (fun c7 => ?_)
  · skip
    refine V_sr T.mix (by kernel_rfl) (fun K4 hK4 => ?_)
    refine S_mv rfl ?_
    first | refine S_add rfl rfl (by omega) (by omega) ?_ | refine S_bin rfl rfl rfl ?_
    refine S_as rfl ?_
    refine S_as rfl ?_
    refine S_nil (hK4 _ _ (V_keep [2, 3] (by simp only [proj, lk, reduceIte, Nat.reduceEqDiff]; rfl) ?_)); clear hK4
    refine V_ret ?_
    refine hR _ _ (ret2 rfl rfl rfl ?_)
    exact ⟨by rw [dB, if_pos (by omega), dM, if_pos (by omega)]; simp, rfl⟩
  · skip
    refine V_skipk [0] (by simp only [proj, lk, reduceIte, Nat.reduceEqDiff]; rfl) ?_
    refine hK2 _ _ ?_; clear hK2
    refine V_seq (fun K5 hK5 => ?_)
    refine V_sr T.mix (by kernel_rfl) (fun K6 hK6 => ?_)
    refine S_mv rfl ?_
    refine S_bin rfl rfl rfl ?_
    refine S_nil (hK6 _ _ (V_keep [0, 9] (by simp only [proj, lk, reduceIte, Nat.reduceEqDiff]; rfl) ?_)); clear hK6
    refine V_condp rfl (fun c10 => ?_) (fun c10 => ?_)
    · skip
      refine V_sr T.mix (by kernel_rfl) (fun K7 hK7 => ?_)
      refine S_mv rfl ?_
      first | refine S_sub rfl rfl (by omega) (by omega) ?_ | refine S_bin rfl rfl rfl ?_
      first | refine S_mul rfl rfl (by omega) (by omega) ?_ | refine S_bin rfl rfl rfl ?_
      first | refine S_add rfl rfl (by omega) (by omega) ?_ | refine S_bin rfl rfl rfl ?_
      refine S_as rfl ?_
      refine S_as rfl ?_
      refine S_nil (hK7 _ _ (V_keep [2, 3] (by simp only [proj, lk, reduceIte, Nat.reduceEqDiff]; rfl) ?_)); clear hK7
      refine V_ret ?_
      refine hR _ _ (ret2 rfl rfl rfl ?_)
      exact ⟨by rw [dB, if_neg (by omega), if_pos (by omega), dM, if_neg (by omega), if_pos (by omega)]; simp; omega, rfl⟩
    · skip
      refine V_skipk [0] (by simp only [proj, lk, reduceIte, Nat.reduceEqDiff]; rfl) ?_
      refine hK5 _ _ ?_; clear hK5
      refine V_sr T.mix (by kernel_rfl) (fun K8 hK8 => ?_)
      refine S_mv rfl ?_
      first | refine S_sub rfl rfl (by omega) (by omega) ?_ | refine S_bin rfl rfl rfl ?_
      first | refine S_mul rfl rfl (by omega) (by omega) ?_ | refine S_bin rfl rfl rfl ?_
      first | refine S_add rfl rfl (by omega) (by omega) ?_ | refine S_bin rfl rfl rfl ?_
      refine S_as rfl ?_
      refine S_as rfl ?_
      refine S_nil (hK8 _ _ (V_keep [2, 3] (by simp only [proj, lk, reduceIte, Nat.reduceEqDiff]; rfl) ?_)); clear hK8
      refine V_ret ?_
      refine hR _ _ (ret2 rfl rfl rfl ?_)
      exact ⟨by rw [dB, if_neg (by omega), if_neg (by omega), dM, if_neg (by omega), if_neg (by omega)]; simp; omega, rfl⟩
set_option maxHeartbeats 400000 in
theorem distcode_spec (h : Heap) (d : Nat) (h1 : 1 ≤ d) (h2 : d ≤ 16) :
    FC Tryz.prog 66 (#[.int .i64 (d : Int)] : Array Value) h fun v h' => v = .int .i64 ((dC d : Nat) : Int) ∧ h = h' := by
  refine FC_of [(0, .int .i64 (d : Int))] Tryz.func66 rfl Tryz.ntmps66 (by simp) rfl (fun R hR => ?_)
  refine V_sr T.mix (by kernel_rfl) (fun K1 hK1 => ?_)
  refine S_as rfl ?_
  refine S_nil (hK1 _ _ (V_keep [0] (by simp only [proj, lk, reduceIte, Nat.reduceEqDiff]; rfl) ?_)); clear hK1
  refine V_seq (fun K2 hK2 => ?_)
  refine V_sr T.mix (by kernel_rfl) (fun K3 hK3 => ?_)
  refine S_mv rfl ?_
  refine S_bin rfl rfl rfl ?_
  refine S_nil (hK3 _ _ (V_keep [0, 4] (by simp only [proj, lk, reduceIte, Nat.reduceEqDiff]; rfl) ?_)); clear hK3
  refine V_condp rfl (fun c18 => ?_) (fun c18 => ?_)
  · skip
    refine V_sr T.mix (by kernel_rfl) (fun K4 hK4 => ?_)
    refine S_mv rfl ?_
    first | refine S_sub rfl rfl (by omega) (by omega) ?_ | refine S_bin rfl rfl rfl ?_
    refine S_as rfl ?_
    refine S_nil (hK4 _ _ (V_keep [2] (by simp only [proj, lk, reduceIte, Nat.reduceEqDiff]; rfl) ?_)); clear hK4
    refine V_ret ?_
    refine hR _ _ (ret1 rfl rfl ?_)
    exact ⟨by unfold dC; rw [if_pos (by omega)]; congr 1; omega, rfl⟩
  · skip
    refine V_skipk [0] (by simp only [proj, lk, reduceIte, Nat.reduceEqDiff]; rfl) ?_
    refine hK2 _ _ ?_; clear hK2
    refine V_seq (fun K5 hK5 => ?_)
    refine V_sr T.mix (by kernel_rfl) (fun K6 hK6 => ?_)
    refine S_mv rfl ?_
    refine S_bin rfl rfl rfl ?_
    refine S_nil (hK6 _ _ (V_keep [0, 8] (by simp only [proj, lk, reduceIte, Nat.reduceEqDiff]; rfl) ?_)); clear hK6
    refine V_condp rfl (fun c21 => ?_) (fun c21 => ?_)
    · skip
      refine V_sr T.mix (by kernel_rfl) (fun K7 hK7 => ?_)
      refine S_mv rfl ?_
      first | refine S_sub rfl rfl (by omega) (by omega) ?_ | refine S_bin rfl rfl rfl ?_
      refine S_quo rfl rfl (by omega) (by omega) (by omega) ?_
      first | refine S_add rfl rfl (by omega) (by omega) ?_ | refine S_bin rfl rfl rfl ?_
      refine S_as rfl ?_
      refine S_nil (hK7 _ _ (V_keep [2] (by simp only [proj, lk, reduceIte, Nat.reduceEqDiff]; rfl) ?_)); clear hK7
      refine V_ret ?_
      refine hR _ _ (ret1 rfl rfl ?_)
      exact ⟨by unfold dC; rw [if_neg (by omega), if_pos (by omega)]; congr 1; omega, rfl⟩
    · skip
      refine V_skipk [0] (by simp only [proj, lk, reduceIte, Nat.reduceEqDiff]; rfl) ?_
      refine hK5 _ _ ?_; clear hK5
      refine V_sr T.mix (by kernel_rfl) (fun K8 hK8 => ?_)
      refine S_mv rfl ?_
      first | refine S_sub rfl rfl (by omega) (by omega) ?_ | refine S_bin rfl rfl rfl ?_
      refine S_quo rfl rfl (by omega) (by omega) (by omega) ?_
      first | refine S_add rfl rfl (by omega) (by omega) ?_ | refine S_bin rfl rfl rfl ?_
      refine S_as rfl ?_
      refine S_nil (hK8 _ _ (V_keep [2] (by simp only [proj, lk, reduceIte, Nat.reduceEqDiff]; rfl) ?_)); clear hK8
      refine V_ret ?_
      refine hR _ _ (ret1 rfl rfl ?_)
      exact ⟨by unfold dC; rw [if_neg (by omega), if_neg (by omega)]; congr 1; omega, rfl⟩
set_option maxHeartbeats 400000 in
theorem fixedlen_spec (h : Heap) (s : Nat) (hs : s < 265) :
    FC Tryz.prog 49 (#[.int .i64 (s : Int)] : Array Value) h fun v h' => v = .int .i64 ((fixL.getD s 0 : Nat) : Int) ∧ h = h' := by
  refine FC_of [(0, .int .i64 (s : Int))] Tryz.func49 rfl Tryz.ntmps49 (by simp) rfl (fun R hR => ?_)
  refine V_sr T.mix (by kernel_rfl) (fun K1 hK1 => ?_)
  refine S_as rfl ?_
  refine S_nil (hK1 _ _ (V_keep [0] (by simp only [proj, lk, reduceIte, Nat.reduceEqDiff]; rfl) ?_)); clear hK1
  refine V_seq (fun K2 hK2 => ?_)
  refine V_sr T.mix (by kernel_rfl) (fun K3 hK3 => ?_)
  refine S_mv rfl ?_
  refine S_bin rfl rfl rfl ?_
  refine S_nil (hK3 _ _ (V_keep [4] (by simp only [proj, lk, reduceIte, Nat.reduceEqDiff]; rfl) ?_)); clear hK3
  refine V_condp rfl (fun c29 => ?_) (fun c29 => ?_)
  · skip
    refine V_sr T.mix (by kernel_rfl) (fun K4 hK4 => ?_)
    refine S_as rfl ?_
    refine S_nil (hK4 _ _ (V_keep [2] (by simp only [proj, lk, reduceIte, Nat.reduceEqDiff]; rfl) ?_)); clear hK4
    refine V_ret ?_
    refine hR _ _ (ret1 rfl rfl ?_)
    exact ⟨by rw [fix_at (by omega), if_pos (by omega)]; rfl, rfl⟩
  · skip
    refine V_skipk [] (by simp only [proj, lk, reduceIte, Nat.reduceEqDiff]; rfl) ?_
    refine hK2 _ _ ?_; clear hK2
    refine V_sr T.mix (by kernel_rfl) (fun K5 hK5 => ?_)
    refine S_as rfl ?_
    refine S_nil (hK5 _ _ (V_keep [2] (by simp only [proj, lk, reduceIte, Nat.reduceEqDiff]; rfl) ?_)); clear hK5
    refine V_ret ?_
    refine hR _ _ (ret1 rfl rfl ?_)
    exact ⟨by rw [fix_at (by omega), if_neg (by omega), if_pos (by omega)]; rfl, rfl⟩
end Go.Proofs.Qxb6500409aGreat
