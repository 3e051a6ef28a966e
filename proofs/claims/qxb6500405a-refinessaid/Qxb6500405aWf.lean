import Derived.Test.Qxb6500405aWe
set_option linter.unusedVariables false
set_option linter.unusedSimpArgs false
namespace Go.Proofs.Qxb6500405a
open Go.Eng Go.Bits

/-- what a step on both sides may turn -/
def WEx (X b M : Nat) (h h' : Heap) (a a' : Option Addr) : Prop := Ext (fun c => c = X ∨ c = b ∨ c = M ∨ blkA a = some c) h h' ∧ ∀ c, blkA a' = some c → blkA a = some c ∨ h.size ≤ c
theorem WEx.refl (X b M : Nat) (h : Heap) (a : Option Addr) : WEx X b M h h a a := ⟨Ext.refl _ _, fun _ hb => .inl hb⟩
theorem WEx.trans {X b M : Nat} {h h1 h2 : Heap} {a a1 a2 : Option Addr} (e1 : WEx X b M h h1 a a1) (e2 : WEx X b M h1 h2 a1 a2) : WEx X b M h h2 a a2 := by
  refine ⟨e1.1.step e2.1 fun c hb hs => ?_, fun c hb => ?_⟩
  · rcases hs with hs | hs | hs | hs
    · exact .inl hs
    · exact .inr (.inl hs)
    · exact .inr (.inr (.inl hs))
    · rcases e1.2 c hs with e | e
      · exact .inr (.inr (.inr e))
      · omega
  · rcases e2.2 c hb with e | e
    · exact e1.2 c e
    · have := e1.1.1; exact .inr (by omega)
theorem WEx.real {X b M : Nat} {h h' : Heap} (a : Option Addr) (he : Ext (fun x => x = X ∨ x = b) h h') : WEx X b M h h' a a := ⟨he.mono fun _ e => by rcases e with e | e; exact .inl e; exact .inr (.inl e), fun _ hb => .inl hb⟩
theorem WEx.model {X b M : Nat} {h h' : Heap} {a a' : Option Addr} (he : MEx M h h' a a') : WEx X b M h h' a a' := ⟨he.1.mono fun _ e => by rcases e with e | e; exact .inr (.inr (.inl e)); exact .inr (.inr (.inr e)), he.2⟩
theorem WEx.quiet {X b M : Nat} {h h' : Heap} (a : Option Addr) (he : Ext (fun _ => False) h h') : WEx X b M h h' a a := ⟨he.mono fun _ e => e.elim, fun _ hb => .inl hb⟩
/-- both sides in the heap -/
structure WJ (base : Nat) (h : Heap) (X b M : Nat) (a : Option Addr) (cap : Nat) (s t : TS) : Prop where
  r : RT h X b s
  m : MT h M a cap t
  d1 : X ≠ M
  d2 : b ≠ M
  d3 : ∀ c, blkA a = some c → c ≠ X ∧ c ≠ b ∧ base ≤ c
  lo : base ≤ X ∧ base ≤ b ∧ base ≤ M
section wj
variable {base : Nat} {h h' : Heap} {X b M : Nat} {a a' : Option Addr} {cap cap' : Nat} {s t s' t' : TS}
theorem WJ.nin (w : WJ base h X b M a cap s t) {c : Nat} (hc : h.size ≤ c) : c ≠ X ∧ c ≠ b ∧ c ≠ M ∧ blkA a ≠ some c := by
  have := w.r.t.lt; have := w.r.bb.lt; have := w.m.t.lt
  exact ⟨by omega, by omega, by omega, fun e => by have := (OwnR.blk2 w.m.bb e).2; omega⟩
theorem WJ.ext {S : Nat → Prop} (w : WJ base h X b M a cap s t) (he : Ext S h h') (hS : ∀ c, S c → c ≠ X ∧ c ≠ b ∧ c ≠ M ∧ blkA a ≠ some c) : WJ base h' X b M a cap s t :=
  ⟨w.r.ext he (fun e => (hS _ e).1 rfl) (fun e => (hS _ e).2.1 rfl), w.m.ext he (fun e => (hS _ e).2.2.1 rfl) (fun c hc e => (hS c e).2.2.2 hc), w.d1, w.d2, w.d3, w.lo⟩
theorem WJ.real (w : WJ base h X b M a cap s t) (r' : RT h' X b s') (he : Ext (fun x => x = X ∨ x = b) h h') : WJ base h' X b M a cap s' t :=
  ⟨r', w.m.ext he (fun e => by rcases e with e | e; exact w.d1 e.symm; exact w.d2 e.symm) (fun c hc e => by rcases e with e | e; exact (w.d3 c hc).1 e; exact (w.d3 c hc).2.1 e), w.d1, w.d2, w.d3, w.lo⟩
theorem WJ.model (w : WJ base h X b M a cap s t) (hb : base ≤ h.size) (m' : MT h' M a' cap' t') (he : MEx M h h' a a') : WJ base h' X b M a' cap' s t' := by
  refine ⟨w.r.ext he.1 (fun e => ?_) (fun e => ?_), m', w.d1, w.d2, fun c hc => ?_, w.lo⟩
  · rcases e with e | e
    · exact w.d1 e
    · exact (w.d3 _ e).1 rfl
  · rcases e with e | e
    · exact w.d2 e
    · exact (w.d3 _ e).2.1 rfl
  · rcases he.2 c hc with e | e
    · exact w.d3 c e
    · have := w.r.t.lt; have := w.r.bb.lt; exact ⟨by omega, by omega, by omega⟩
theorem WJ.hb (w : WJ base h X b M a cap s t) : base ≤ h.size := by have := w.r.t.lt; have := w.lo.1; omega
theorem WEx.low (w : WJ base h X b M a cap s t) (he : WEx X b M h h' a a') : Ext (fun c => base ≤ c) h h' := he.1.mono fun c e => by
  have := w.lo
  rcases e with e | e | e | e
  · omega
  · omega
  · omega
  · exact (w.d3 c e).2.2
end wj
section sp
variable {s : TS} {k oa ob : Int} {os : ByteArray}
theorem sp1 (h : k = 1) : dueF s k oa ob os = 0 ∧ stepS s k oa ob os = ⟨0, 0, 0⟩ ∧ stepV s k oa = 0 := by unfold dueF stepS stepV; subst h; simp
theorem sp2 (h : k = 2) : dueF s k oa ob os = loadE os ∧ stepS s k oa ob os = loadS s os ∧ stepV s k oa = 0 := by unfold dueF stepS stepV; subst h; simp
theorem sp3 (h : k = 3) : dueF s k oa ob os = putE s.n oa ob ∧ stepS s k oa ob os = putS s oa ob ∧ stepV s k oa = 0 := by unfold dueF stepS stepV; subst h; simp
theorem sp4 (h : k = 4) : dueF s k oa ob os = 0 ∧ stepS s k oa ob os = padS s ∧ stepV s k oa = 0 := by unfold dueF stepS stepV; subst h; simp
theorem sp5 (h : k = 5) : dueF s k oa ob os = skipE s oa ∧ stepS s k oa ob os = skipS s oa ∧ stepV s k oa = takeV s oa := by unfold dueF stepS stepV; subst h; simp
theorem sp6 (h : k = 6) : dueF s k oa ob os = skipE s oa ∧ stepS s k oa ob os = skipS s oa ∧ stepV s k oa = 0 := by unfold dueF stepS stepV; subst h; simp
theorem sp7 (h : k = 7) : dueF s k oa ob os = 0 ∧ stepS s k oa ob os = syncS s ∧ stepV s k oa = 0 := by unfold dueF stepS stepV; subst h; simp
theorem sp0 (h : k ≠ 1 ∧ k ≠ 2 ∧ k ≠ 3 ∧ k ≠ 4 ∧ k ≠ 5 ∧ k ≠ 6 ∧ k ≠ 7) : dueF s k oa ob os = 0 ∧ stepS s k oa ob os = s ∧ stepV s k oa = 0 := by
  refine ⟨?_, st0 h, ?_⟩
  · unfold dueF; rw [if_neg (by omega), if_neg (by omega), if_neg (by omega)]
  · unfold stepV; rw [if_neg (by omega)]
end sp
/-- the script, as it lies in the heap -/
def Scr (base : Nat) (h : Heap) (sa : Option Addr) (n : Nat) : Prop := ∀ i, i < n → ∃ sb so, sa = some ⟨sb, so, none⟩ ∧ sb < base ∧ ∃ k a b c s u, cellsH h ⟨sb, so + i * 6, none⟩ 0 6 = some [.int .i64 k, .int .i64 a, .int .i64 b, .int .i64 c, .string s, .string u]
theorem cellsH_same {h h' : Heap} {b o : Nat} (he : h'[b]? = h[b]?) : ∀ (n i : Nat), cellsH h' ⟨b, o, none⟩ i n = cellsH h ⟨b, o, none⟩ i n
  | 0, _ => rfl
  | n + 1, i => by
    have e : cellH h' ((⟨b, o, none⟩ : Addr).add i) = cellH h ((⟨b, o, none⟩ : Addr).add i) := by rw [add_mk]; unfold cellH; simp only [he]
    simp only [cellsH, e, cellsH_same he n (i + 1)]
theorem Scr.ext {base : Nat} {h h' : Heap} {sa : Option Addr} {n : Nat} (hs : Scr base h sa n) (hb : base ≤ h.size) (he : Ext (fun b => base ≤ b) h h') : Scr base h' sa n := by
  intro i hi
  obtain ⟨sb, so, e, hlt, k, a, b, c, s, u, hc⟩ := hs i hi
  exact ⟨sb, so, e, hlt, k, a, b, c, s, u, by rw [cellsH_same (he.2 sb (by omega) (by omega))]; exact hc⟩
set_option maxHeartbeats 400000 in
theorem samepos_spec (base : Nat) (h : Heap) (X b M : Nat) (a : Option Addr) (cap : Nat) (s : TS) (w : WJ base h X b M a cap s s) :
    FC Try.prog 16 (#[.pointer (some ⟨X, 0, none⟩), .pointer (some ⟨M, 0, none⟩)] : Array Value) h fun v h' => v = .bool true ∧ h = h' := by
  refine FC_of [(0, .pointer (some ⟨X, 0, none⟩)), (1, .pointer (some ⟨M, 0, none⟩))] Try.func16 rfl Try.ntmps16 (by simp) rfl (fun R hR => ?_)
  refine V_sr T.mix (by kernel_rfl) (fun K1 hK1 => ?_)
  refine S_as rfl ?_
  refine S_nil (hK1 _ _ (V_keep [0, 1] (by simp only [proj, lk, reduceIte, Nat.reduceEqDiff]; rfl) ?_)); clear hK1
  refine V_sr T.mix (by kernel_rfl) (fun K2 hK2 => ?_)
  refine S_mv rfl ?_
  refine S_call T.hb41 rfl ?_
  refine FC.mono (pos_spec h X b s w.r) ?_
  rintro v h' ⟨rfl, rfl⟩
  refine S_as rfl ?_
  refine S_nil (hK2 _ _ (V_keep [1, 5] (by simp only [proj, lk, reduceIte, Nat.reduceEqDiff]; rfl) ?_)); clear hK2
  refine V_sr T.mix (by kernel_rfl) (fun K3 hK3 => ?_)
  refine S_mv rfl ?_
  refine S_call T.hb21 rfl ?_
  refine FC.mono (mpos_spec h M a cap s w.m) ?_
  rintro v h' ⟨rfl, rfl⟩
  refine S_as rfl ?_
  refine S_nil (hK3 _ _ (V_keep [5, 6] (by simp only [proj, lk, reduceIte, Nat.reduceEqDiff]; rfl) ?_)); clear hK3
  refine V_sr T.mix (by kernel_rfl) (fun K4 hK4 => ?_)
  refine S_mv rfl ?_
  refine S_mv rfl ?_
  refine S_bin rfl rfl rfl ?_
  refine S_as rfl ?_
  refine S_nil (hK4 _ _ (V_keep [4] (by simp only [proj, lk, reduceIte, Nat.reduceEqDiff]; rfl) ?_)); clear hK4
  refine V_ret ?_
  refine hR _ _ (ret1 rfl rfl ?_)
  exact ⟨by simp, rfl⟩
set_option maxHeartbeats 400000 in
theorem samelen_spec (base : Nat) (h : Heap) (X b M : Nat) (a : Option Addr) (cap : Nat) (s : TS) (w : WJ base h X b M a cap s s) :
    FC Try.prog 17 (#[.pointer (some ⟨X, 0, none⟩), .pointer (some ⟨M, 0, none⟩)] : Array Value) h fun v h' => v = .bool true ∧ h = h' := by
  refine FC_of [(0, .pointer (some ⟨X, 0, none⟩)), (1, .pointer (some ⟨M, 0, none⟩))] Try.func17 rfl Try.ntmps17 (by simp) rfl (fun R hR => ?_)
  refine V_sr T.mix (by kernel_rfl) (fun K1 hK1 => ?_)
  refine S_as rfl ?_
  refine S_nil (hK1 _ _ (V_keep [0, 1] (by simp only [proj, lk, reduceIte, Nat.reduceEqDiff]; rfl) ?_)); clear hK1
  refine V_sr T.mix (by kernel_rfl) (fun K2 hK2 => ?_)
  refine S_mv rfl ?_
  refine S_call T.hb42 rfl ?_
  refine FC.mono (len_spec h X b s w.r) ?_
  rintro v h' ⟨rfl, rfl⟩
  refine S_as rfl ?_
  refine S_nil (hK2 _ _ (V_keep [1, 5] (by simp only [proj, lk, reduceIte, Nat.reduceEqDiff]; rfl) ?_)); clear hK2
  refine V_sr T.mix (by kernel_rfl) (fun K3 hK3 => ?_)
  refine S_mv rfl ?_
  refine S_call T.hb22 rfl ?_
  refine FC.mono (mlen_spec h M a cap s w.m) ?_
  rintro v h' ⟨rfl, rfl⟩
  refine S_as rfl ?_
  refine S_nil (hK3 _ _ (V_keep [5, 6] (by simp only [proj, lk, reduceIte, Nat.reduceEqDiff]; rfl) ?_)); clear hK3
  refine V_sr T.mix (by kernel_rfl) (fun K4 hK4 => ?_)
  refine S_mv rfl ?_
  refine S_mv rfl ?_
  refine S_bin rfl rfl rfl ?_
  refine S_as rfl ?_
  refine S_nil (hK4 _ _ (V_keep [4] (by simp only [proj, lk, reduceIte, Nat.reduceEqDiff]; rfl) ?_)); clear hK4
  refine V_ret ?_
  refine hR _ _ (ret1 rfl rfl ?_)
  exact ⟨by simp, rfl⟩
set_option maxHeartbeats 400000 in
theorem sametext_spec (base : Nat) (h : Heap) (X b M : Nat) (a : Option Addr) (cap : Nat) (s : TS) (w : WJ base h X b M a cap s s) :
    FC Try.prog 18 (#[.pointer (some ⟨X, 0, none⟩), .pointer (some ⟨M, 0, none⟩)] : Array Value) h fun v h' => v = .bool true ∧ Ext (fun _ => False) h h' := by
  refine FC_of [(0, .pointer (some ⟨X, 0, none⟩)), (1, .pointer (some ⟨M, 0, none⟩))] Try.func18 rfl Try.ntmps18 (by simp) rfl (fun R hR => ?_)
  refine V_sr T.mix (by kernel_rfl) (fun K1 hK1 => ?_)
  refine S_as rfl ?_
  refine S_nil (hK1 _ _ (V_keep [0, 1] (by simp only [proj, lk, reduceIte, Nat.reduceEqDiff]; rfl) ?_)); clear hK1
  refine V_sr T.mix (by kernel_rfl) (fun K2 hK2 => ?_)
  refine S_mv rfl ?_
  refine S_call T.hb43 rfl ?_
  refine FC.mono (text_spec h X b s w.r) ?_
  rintro v h' ⟨rfl, rfl⟩
  refine S_as rfl ?_
  refine S_nil (hK2 _ _ (V_keep [1, 5] (by simp only [proj, lk, reduceIte, Nat.reduceEqDiff]; rfl) ?_)); clear hK2
  refine V_sr T.mix (by kernel_rfl) (fun K3 hK3 => ?_)
  refine S_mv rfl ?_
  refine S_call T.hb23 rfl ?_
  refine FC.mono (mtext_spec h M a cap s w.m) ?_
  rintro v h2 ⟨rfl, hE2⟩
  refine S_as rfl ?_
  refine S_nil (hK3 _ _ (V_keep [5, 6] (by simp only [proj, lk, reduceIte, Nat.reduceEqDiff]; rfl) ?_)); clear hK3
  refine V_sr T.mix (by kernel_rfl) (fun K4 hK4 => ?_)
  refine S_mv rfl ?_
  refine S_mv rfl ?_
  refine S_bin rfl rfl rfl ?_
  refine S_as rfl ?_
  refine S_nil (hK4 _ _ (V_keep [4] (by simp only [proj, lk, reduceIte, Nat.reduceEqDiff]; rfl) ?_)); clear hK4
  refine V_ret ?_
  refine hR _ _ (ret1 rfl rfl ?_)
  exact ⟨by simp, hE2⟩
set_option maxHeartbeats 400000 in
theorem samepeek_spec (base : Nat) (h : Heap) (X b M : Nat) (a : Option Addr) (cap : Nat) (s : TS) (w : WJ base h X b M a cap s s) (k : Int) :
    FC Try.prog 19 (#[.pointer (some ⟨X, 0, none⟩), .pointer (some ⟨M, 0, none⟩), .int .i64 k] : Array Value) h fun v h' => v = .bool true ∧ h = h' := by
  refine FC_of [(0, .pointer (some ⟨X, 0, none⟩)), (1, .pointer (some ⟨M, 0, none⟩)), (2, .int .i64 k)] Try.func19 rfl Try.ntmps19 (by simp) rfl (fun R hR => ?_)
  refine V_sr T.mix (by kernel_rfl) (fun K1 hK1 => ?_)
  refine S_as rfl ?_
  refine S_nil (hK1 _ _ (V_keep [0, 1, 2] (by simp only [proj, lk, reduceIte, Nat.reduceEqDiff]; rfl) ?_)); clear hK1
  refine V_sr T.mix (by kernel_rfl) (fun K2 hK2 => ?_)
  refine S_mv rfl ?_
  refine S_mv rfl ?_
  refine S_call T.hb44 rfl ?_
  refine FC.mono (peek_spec h X b s w.r k) ?_
  rintro v h' ⟨rfl, rfl⟩
  refine S_mv rfl ?_
  refine S_ex rfl rfl ?_
  refine S_ex rfl rfl ?_
  refine S_as rfl ?_
  refine S_as rfl ?_
  refine S_nil (hK2 _ _ (V_keep [1, 2, 7, 8] (by simp only [proj, lk, reduceIte, Nat.reduceEqDiff]; rfl) ?_)); clear hK2
  refine V_sr T.mix (by kernel_rfl) (fun K3 hK3 => ?_)
  refine S_mv rfl ?_
  refine S_mv rfl ?_
  refine S_call T.hb40 rfl ?_
  refine FC.mono (mpeek_spec h M a cap s w.m k) ?_
  rintro v h' ⟨rfl, rfl⟩
  refine S_mv rfl ?_
  refine S_ex rfl rfl ?_
  refine S_ex rfl rfl ?_
  refine S_as rfl ?_
  refine S_as rfl ?_
  refine S_nil (hK3 _ _ (V_keep [7, 8, 9, 10] (by simp only [proj, lk, reduceIte, Nat.reduceEqDiff]; rfl) ?_)); clear hK3
  refine V_sr T.mix (by kernel_rfl) (fun K4 hK4 => ?_)
  refine S_mv rfl ?_
  refine S_mv rfl ?_
  refine S_bin rfl rfl rfl ?_
  refine S_mv rfl ?_
  refine S_dec (fun g68 => ?_) (fun g68 => ?_)
  · skip
    refine S_gt rfl ?_
    refine S_mv rfl ?_
    refine S_gt rfl ?_
    refine S_mv rfl ?_
    refine S_gt rfl ?_
    refine S_bin rfl rfl rfl ?_
    refine S_pt rfl rfl ?_
    refine S_as rfl ?_
    refine S_nil (hK4 _ _ (V_keep [6] (by simp only [proj, lk, reduceIte, Nat.reduceEqDiff]; rfl) ?_)); clear hK4
    refine V_ret ?_
    refine hR _ _ (ret1 rfl rfl ?_)
    exact ⟨by simp, rfl⟩
  · skip
    exfalso; exact g68 rfl
set_option maxHeartbeats 400000 in
theorem sameload_spec (base : Nat) (h : Heap) (X b M : Nat) (a : Option Addr) (cap : Nat) (s : TS) (w : WJ base h X b M a cap s s) (u : ByteArray) :
    FC Try.prog 26 (#[.pointer (some ⟨X, 0, none⟩), .pointer (some ⟨M, 0, none⟩), .string u] : Array Value) h fun rv h' => rv = .tuple #[.bool true, .int .i64 ((loadE u : Nat) : Int)] ∧ ∃ a' cap', WJ base h' X b M a' cap' (loadS s u) (loadS s u) ∧ WEx X b M h h' a a' := by
  refine FC_of [(0, .pointer (some ⟨X, 0, none⟩)), (1, .pointer (some ⟨M, 0, none⟩)), (2, .string u)] Try.func26 rfl Try.ntmps26 (by simp) rfl (fun R hR => ?_)
  refine V_sr T.mix (by kernel_rfl) (fun K1 hK1 => ?_)
  refine S_as rfl ?_
  refine S_as rfl ?_
  refine S_nil (hK1 _ _ (V_keep [0, 1, 2] (by simp only [proj, lk, reduceIte, Nat.reduceEqDiff]; rfl) ?_)); clear hK1
  refine V_sr T.mix (by kernel_rfl) (fun K2 hK2 => ?_)
  refine S_mv rfl ?_
  refine S_mv rfl ?_
  refine S_call T.hb46 rfl ?_
  refine FC.mono (load_spec h X b s w.r u) ?_
  rintro v h1 ⟨rfl, r1, hE1⟩
  have w1 := w.real r1 hE1
  refine S_as rfl ?_
  refine S_nil (hK2 _ _ (V_keep [1, 2, 8] (by simp only [proj, lk, reduceIte, Nat.reduceEqDiff]; rfl) ?_)); clear hK2
  refine V_sr T.mix (by kernel_rfl) (fun K3 hK3 => ?_)
  refine S_mv rfl ?_
  refine S_mv rfl ?_
  refine S_call T.hb47 rfl ?_
  refine FC.mono (mload_spec h1 M a cap s w1.m u) ?_
  rintro v h2 ⟨rfl, a2, c2, m2, hX2⟩
  have w2 := w1.model w1.hb m2 hX2
  have hW := (WEx.real (M := M) a hE1).trans (WEx.model hX2)
  refine S_as rfl ?_
  refine S_nil (hK3 _ _ (V_keep [8, 9] (by simp only [proj, lk, reduceIte, Nat.reduceEqDiff]; rfl) ?_)); clear hK3
  refine V_sr T.mix (by kernel_rfl) (fun K4 hK4 => ?_)
  refine S_mv rfl ?_
  refine S_mv rfl ?_
  refine S_bin rfl rfl rfl ?_
  refine S_mv rfl ?_
  refine S_as rfl ?_
  refine S_as rfl ?_
  refine S_nil (hK4 _ _ (V_keep [6, 7] (by simp only [proj, lk, reduceIte, Nat.reduceEqDiff]; rfl) ?_)); clear hK4
  refine V_ret ?_
  refine hR _ _ (ret2 rfl rfl rfl ?_)
  exact ⟨by simp, a2, c2, w2, hW⟩
set_option maxHeartbeats 400000 in
theorem sameput_spec (base : Nat) (h : Heap) (X b M : Nat) (a : Option Addr) (cap : Nat) (s : TS) (w : WJ base h X b M a cap s s) (v k : Int) :
    FC Try.prog 27 (#[.pointer (some ⟨X, 0, none⟩), .pointer (some ⟨M, 0, none⟩), .int .i64 v, .int .i64 k] : Array Value) h fun rv h' => rv = .tuple #[.bool true, .int .i64 ((putE s.n v k : Nat) : Int)] ∧ ∃ a' cap', WJ base h' X b M a' cap' (putS s v k) (putS s v k) ∧ WEx X b M h h' a a' := by
  refine FC_of [(0, .pointer (some ⟨X, 0, none⟩)), (1, .pointer (some ⟨M, 0, none⟩)), (2, .int .i64 v), (3, .int .i64 k)] Try.func27 rfl Try.ntmps27 (by simp) rfl (fun R hR => ?_)
  refine V_sr T.mix (by kernel_rfl) (fun K1 hK1 => ?_)
  refine S_as rfl ?_
  refine S_as rfl ?_
  refine S_nil (hK1 _ _ (V_keep [0, 1, 2, 3] (by simp only [proj, lk, reduceIte, Nat.reduceEqDiff]; rfl) ?_)); clear hK1
  refine V_sr T.mix (by kernel_rfl) (fun K2 hK2 => ?_)
  refine S_mv rfl ?_
  refine S_mv rfl ?_
  refine S_mv rfl ?_
  refine S_call T.hb48 rfl ?_
  refine FC.mono (put_spec h X b s w.r v k) ?_
  rintro v h1 ⟨rfl, r1, hE1⟩
  have w1 := w.real r1 hE1
  refine S_as rfl ?_
  refine S_nil (hK2 _ _ (V_keep [1, 2, 3, 10] (by simp only [proj, lk, reduceIte, Nat.reduceEqDiff]; rfl) ?_)); clear hK2
  refine V_sr T.mix (by kernel_rfl) (fun K3 hK3 => ?_)
  refine S_mv rfl ?_
  refine S_mv rfl ?_
  refine S_mv rfl ?_
  refine S_call T.hb49 rfl ?_
  refine FC.mono (mput_spec h1 M a cap s w1.m v k) ?_
  rintro v h2 ⟨rfl, a2, c2, m2, hX2⟩
  have w2 := w1.model w1.hb m2 hX2
  have hW := (WEx.real (M := M) a hE1).trans (WEx.model hX2)
  refine S_as rfl ?_
  refine S_nil (hK3 _ _ (V_keep [10, 11] (by simp only [proj, lk, reduceIte, Nat.reduceEqDiff]; rfl) ?_)); clear hK3
  refine V_sr T.mix (by kernel_rfl) (fun K4 hK4 => ?_)
  refine S_mv rfl ?_
  refine S_mv rfl ?_
  refine S_bin rfl rfl rfl ?_
  refine S_mv rfl ?_
  refine S_as rfl ?_
  refine S_as rfl ?_
  refine S_nil (hK4 _ _ (V_keep [8, 9] (by simp only [proj, lk, reduceIte, Nat.reduceEqDiff]; rfl) ?_)); clear hK4
  refine V_ret ?_
  refine hR _ _ (ret2 rfl rfl rfl ?_)
  exact ⟨by simp, a2, c2, w2, hW⟩
set_option maxHeartbeats 400000 in
theorem sameskip_spec (base : Nat) (h : Heap) (X b M : Nat) (a : Option Addr) (cap : Nat) (s : TS) (w : WJ base h X b M a cap s s) (k : Int) :
    FC Try.prog 31 (#[.pointer (some ⟨X, 0, none⟩), .pointer (some ⟨M, 0, none⟩), .int .i64 k] : Array Value) h fun rv h' => rv = .tuple #[.bool true, .int .i64 ((skipE s k : Nat) : Int)] ∧ ∃ a' cap', WJ base h' X b M a' cap' (skipS s k) (skipS s k) ∧ WEx X b M h h' a a' := by
  refine FC_of [(0, .pointer (some ⟨X, 0, none⟩)), (1, .pointer (some ⟨M, 0, none⟩)), (2, .int .i64 k)] Try.func31 rfl Try.ntmps31 (by simp) rfl (fun R hR => ?_)
  refine V_sr T.mix (by kernel_rfl) (fun K1 hK1 => ?_)
  refine S_as rfl ?_
  refine S_as rfl ?_
  refine S_nil (hK1 _ _ (V_keep [0, 1, 2] (by simp only [proj, lk, reduceIte, Nat.reduceEqDiff]; rfl) ?_)); clear hK1
  refine V_sr T.mix (by kernel_rfl) (fun K2 hK2 => ?_)
  refine S_mv rfl ?_
  refine S_mv rfl ?_
  refine S_call T.hb52 rfl ?_
  refine FC.mono (skip_spec h X b s w.r k) ?_
  rintro v h1 ⟨rfl, r1, hE1⟩
  have w1 := w.real r1 hE1
  refine S_as rfl ?_
  refine S_nil (hK2 _ _ (V_keep [1, 2, 8] (by simp only [proj, lk, reduceIte, Nat.reduceEqDiff]; rfl) ?_)); clear hK2
  refine V_sr T.mix (by kernel_rfl) (fun K3 hK3 => ?_)
  refine S_mv rfl ?_
  refine S_mv rfl ?_
  refine S_call T.hb53 rfl ?_
  refine FC.mono (mskip_spec h1 M a cap s w1.m k) ?_
  rintro v h2 ⟨rfl, a2, c2, m2, hX2⟩
  have w2 := w1.model w1.hb m2 hX2
  have hW := (WEx.real (M := M) a hE1).trans (WEx.model hX2)
  refine S_as rfl ?_
  refine S_nil (hK3 _ _ (V_keep [8, 9] (by simp only [proj, lk, reduceIte, Nat.reduceEqDiff]; rfl) ?_)); clear hK3
  refine V_sr T.mix (by kernel_rfl) (fun K4 hK4 => ?_)
  refine S_mv rfl ?_
  refine S_mv rfl ?_
  refine S_bin rfl rfl rfl ?_
  refine S_mv rfl ?_
  refine S_as rfl ?_
  refine S_as rfl ?_
  refine S_nil (hK4 _ _ (V_keep [6, 7] (by simp only [proj, lk, reduceIte, Nat.reduceEqDiff]; rfl) ?_)); clear hK4
  refine V_ret ?_
  refine hR _ _ (ret2 rfl rfl rfl ?_)
  exact ⟨by simp, a2, c2, w2, hW⟩
set_option maxHeartbeats 400000 in
theorem sametake_spec (base : Nat) (h : Heap) (X b M : Nat) (a : Option Addr) (cap : Nat) (s : TS) (w : WJ base h X b M a cap s s) (k : Int) :
    FC Try.prog 30 (#[.pointer (some ⟨X, 0, none⟩), .pointer (some ⟨M, 0, none⟩), .int .i64 k] : Array Value) h fun rv h' => rv = .tuple #[.bool true, .int .i64 ((skipE s k : Nat) : Int), .int .i64 ((takeV s k : Nat) : Int)] ∧ ∃ a' cap', WJ base h' X b M a' cap' (skipS s k) (skipS s k) ∧ WEx X b M h h' a a' := by
  refine FC_of [(0, .pointer (some ⟨X, 0, none⟩)), (1, .pointer (some ⟨M, 0, none⟩)), (2, .int .i64 k)] Try.func30 rfl Try.ntmps30 (by simp) rfl (fun R hR => ?_)
  refine V_sr T.mix (by kernel_rfl) (fun K1 hK1 => ?_)
  refine S_as rfl ?_
  refine S_as rfl ?_
  refine S_as rfl ?_
  refine S_nil (hK1 _ _ (V_keep [0, 1, 2] (by simp only [proj, lk, reduceIte, Nat.reduceEqDiff]; rfl) ?_)); clear hK1
  refine V_sr T.mix (by kernel_rfl) (fun K2 hK2 => ?_)
  refine S_mv rfl ?_
  refine S_mv rfl ?_
  refine S_call T.hb50 rfl ?_
  refine FC.mono (take_spec h X b s w.r k) ?_
  rintro v h1 ⟨rfl, r1, hE1⟩
  have w1 := w.real r1 hE1
  refine S_mv rfl ?_
  refine S_ex rfl rfl ?_
  refine S_ex rfl rfl ?_
  refine S_as rfl ?_
  refine S_as rfl ?_
  refine S_nil (hK2 _ _ (V_keep [1, 2, 9, 10] (by simp only [proj, lk, reduceIte, Nat.reduceEqDiff]; rfl) ?_)); clear hK2
  refine V_sr T.mix (by kernel_rfl) (fun K3 hK3 => ?_)
  refine S_mv rfl ?_
  refine S_mv rfl ?_
  refine S_call T.hb51 rfl ?_
  refine FC.mono (mtake_spec h1 M a cap s w1.m k) ?_
  rintro v h2 ⟨rfl, a2, c2, m2, hX2⟩
  have w2 := w1.model w1.hb m2 hX2
  have hW := (WEx.real (M := M) a hE1).trans (WEx.model hX2)
  refine S_mv rfl ?_
  refine S_ex rfl rfl ?_
  refine S_ex rfl rfl ?_
  refine S_as rfl ?_
  refine S_as rfl ?_
  refine S_nil (hK3 _ _ (V_keep [9, 10, 11, 12] (by simp only [proj, lk, reduceIte, Nat.reduceEqDiff]; rfl) ?_)); clear hK3
  refine V_sr T.mix (by kernel_rfl) (fun K4 hK4 => ?_)
  refine S_mv rfl ?_
  refine S_mv rfl ?_
  refine S_bin rfl rfl rfl ?_
  refine S_mv rfl ?_
  refine S_dec (fun g50 => ?_) (fun g50 => ?_)
  · skip
    refine S_gt rfl ?_
    refine S_mv rfl ?_
    refine S_gt rfl ?_
    refine S_mv rfl ?_
    refine S_gt rfl ?_
    refine S_bin rfl rfl rfl ?_
    refine S_pt rfl rfl ?_
    refine S_mv rfl ?_
    refine S_mv rfl ?_
    refine S_as rfl ?_
    refine S_as rfl ?_
    refine S_as rfl ?_
    refine S_nil (hK4 _ _ (V_keep [6, 7, 8] (by simp only [proj, lk, reduceIte, Nat.reduceEqDiff]; rfl) ?_)); clear hK4
    refine V_ret ?_
    refine hR _ _ (ret3 rfl rfl rfl rfl ?_)
    exact ⟨by simp, a2, c2, w2, hW⟩
  · skip
    exfalso; exact g50 rfl
set_option maxHeartbeats 400000 in
theorem alike_spec (base : Nat) (h : Heap) (X b M : Nat) (a : Option Addr) (cap : Nat) (s : TS) (w : WJ base h X b M a cap s s) :
    FC Try.prog 11 (#[.pointer (some ⟨X, 0, none⟩), .pointer (some ⟨M, 0, none⟩)] : Array Value) h fun v h' => v = .bool true ∧ Ext (fun _ => False) h h' := by
  refine FC_of [(0, .pointer (some ⟨X, 0, none⟩)), (1, .pointer (some ⟨M, 0, none⟩))] Try.func11 rfl Try.ntmps11 (by simp) rfl (fun R hR => ?_)
  refine V_sr T.mix (by kernel_rfl) (fun K1 hK1 => ?_)
  refine S_as rfl ?_
  refine S_nil (hK1 _ _ (V_keep [0, 1] (by simp only [proj, lk, reduceIte, Nat.reduceEqDiff]; rfl) ?_)); clear hK1
  refine V_seq (fun K2 hK2 => ?_)
  refine V_sr T.mix (by kernel_rfl) (fun K3 hK3 => ?_)
  refine S_mv rfl ?_
  refine S_mv rfl ?_
  refine S_call T.hb16 rfl ?_
  refine FC.mono (samepos_spec base h X b M a cap s w) ?_
  rintro v h' ⟨rfl, rfl⟩
  refine S_notb rfl ?_
  refine S_nil (hK3 _ _ (V_keep [0, 1, 9] (by simp only [proj, lk, reduceIte, Nat.reduceEqDiff]; rfl) ?_)); clear hK3
  refine V_condb rfl (fun c85 => ?_) (fun c85 => ?_)
  · skip
    cases c85
  · skip
    refine V_skipk [0, 1] (by simp only [proj, lk, reduceIte, Nat.reduceEqDiff]; rfl) ?_
    refine hK2 _ _ ?_; clear hK2
    refine V_seq (fun K4 hK4 => ?_)
    refine V_sr T.mix (by kernel_rfl) (fun K5 hK5 => ?_)
    refine S_mv rfl ?_
    refine S_mv rfl ?_
    refine S_call T.hb17 rfl ?_
    refine FC.mono (samelen_spec base h X b M a cap s w) ?_
    rintro v h' ⟨rfl, rfl⟩
    refine S_notb rfl ?_
    refine S_nil (hK5 _ _ (V_keep [0, 1, 13] (by simp only [proj, lk, reduceIte, Nat.reduceEqDiff]; rfl) ?_)); clear hK5
    refine V_condb rfl (fun c88 => ?_) (fun c88 => ?_)
    · skip
      cases c88
    · skip
      refine V_skipk [0, 1] (by simp only [proj, lk, reduceIte, Nat.reduceEqDiff]; rfl) ?_
      refine hK4 _ _ ?_; clear hK4
      refine V_seq (fun K6 hK6 => ?_)
      refine V_sr T.mix (by kernel_rfl) (fun K7 hK7 => ?_)
      refine S_mv rfl ?_
      refine S_mv rfl ?_
      refine S_call T.hb18 rfl ?_
      refine FC.mono (sametext_spec base h X b M a cap s w) ?_
      rintro v h1 ⟨rfl, hE1⟩
      have w1 := w.ext hE1 (fun _ f => f.elim)
      refine S_notb rfl ?_
      refine S_nil (hK7 _ _ (V_keep [0, 1, 17] (by simp only [proj, lk, reduceIte, Nat.reduceEqDiff]; rfl) ?_)); clear hK7
      refine V_condb rfl (fun c91 => ?_) (fun c91 => ?_)
      · skip
        cases c91
      · skip
        refine V_skipk [0, 1] (by simp only [proj, lk, reduceIte, Nat.reduceEqDiff]; rfl) ?_
        refine hK6 _ _ ?_; clear hK6
        refine V_seq (fun K8 hK8 => ?_)
        refine V_sr T.mix (by kernel_rfl) (fun K9 hK9 => ?_)
        refine S_as rfl ?_
        refine S_nil (hK9 _ _ (V_keep [0, 1, 5] (by simp only [proj, lk, reduceIte, Nat.reduceEqDiff]; rfl) ?_)); clear hK9
        refine V_block ?_
        refine V_loop (fun m l h' => ∃ (n : Int), (-1 ≤ n) ∧ (n ≤ 18) ∧ m = (18 - n).toNat ∧ l = [(0, .pointer (some ⟨X, 0, none⟩)), (1, .pointer (some ⟨M, 0, none⟩)), (5, .int .i64 n)] ∧ h1 = h') _ ⟨-1, by omega, by omega, rfl, rfl, rfl⟩ ?_
        rintro m l h' ⟨n, hn1, hn2, rfl, rfl, rfl⟩ K10 hK10
        refine V_seq (fun K11 hK11 => ?_)
        refine V_sr T.mix (by kernel_rfl) (fun K12 hK12 => ?_)
        refine S_mv rfl ?_
        refine S_bin rfl rfl rfl ?_
        refine S_nil (hK12 _ _ (V_keep [0, 1, 5, 19] (by simp only [proj, lk, reduceIte, Nat.reduceEqDiff]; rfl) ?_)); clear hK12
        refine V_condp rfl (fun c94 => ?_) (fun c94 => ?_)
        · skip
          refine V_skipk [0, 1, 5] (by simp only [proj, lk, reduceIte, Nat.reduceEqDiff]; rfl) ?_
          refine hK11 _ _ ?_; clear hK11
          refine V_seq (fun K13 hK13 => ?_)
          refine V_block ?_
          refine V_sr T.mix (by kernel_rfl) (fun K14 hK14 => ?_)
          refine S_mv rfl ?_
          refine S_mv rfl ?_
          refine S_mv rfl ?_
          refine S_call T.hb19 rfl ?_
          refine FC.mono (samepeek_spec base h1 X b M a cap s w1 n) ?_
          rintro v h' ⟨rfl, rfl⟩
          refine S_notb rfl ?_
          refine S_nil (hK14 _ _ (V_keep [0, 1, 5, 26] (by simp only [proj, lk, reduceIte, Nat.reduceEqDiff]; rfl) ?_)); clear hK14
          refine V_condb rfl (fun c95 => ?_) (fun c95 => ?_)
          · skip
            cases c95
          · skip
            refine V_skipk [0, 1, 5] (by simp only [proj, lk, reduceIte, Nat.reduceEqDiff]; rfl) ?_
            refine hK13 _ _ ?_; clear hK13
            refine V_reg T.mix (by kernel_rfl) ?_
            refine S_mv rfl ?_
            first | refine S_add rfl rfl (by omega) (by omega) ?_ | refine S_bin rfl rfl rfl ?_
            refine S_as rfl ?_
            refine S_nilk [0, 1, 5] (by simp only [proj, lk, reduceIte, Nat.reduceEqDiff]; rfl) ?_
            exact hK10 _ _ ⟨_, by omega, n + 1, by omega, by omega, rfl, rfl, rfl⟩
        · skip
          refine V_exitk [0] rfl (by simp only [proj, lk, reduceIte, Nat.reduceEqDiff]; rfl) ?_
          refine hK8 _ _ ?_; clear hK8
          refine V_sr T.mix (by kernel_rfl) (fun K15 hK15 => ?_)
          refine S_mv rfl ?_
          refine S_call T.hb20 rfl ?_
          refine FC.mono (check_spec h1 X b s w1.r) ?_
          rintro v h' ⟨rfl, rfl⟩
          refine S_as rfl ?_
          refine S_nil (hK15 _ _ (V_keep [4] (by simp only [proj, lk, reduceIte, Nat.reduceEqDiff]; rfl) ?_)); clear hK15
          refine V_ret ?_
          refine hR _ _ (ret1 rfl rfl ?_)
          exact ⟨rfl, hE1⟩
set_option maxHeartbeats 1600000 in
theorem play_spec (base : Nat) (h : Heap) (X b M : Nat) (a : Option Addr) (cap : Nat) (s : TS) (w : WJ base h X b M a cap s s) (k oa ob oc : Int) (os ot : ByteArray) :
    FC Try.prog 13 (#[.pointer (some ⟨X, 0, none⟩), .pointer (some ⟨M, 0, none⟩), .agg #[.int .i64 k, .int .i64 oa, .int .i64 ob, .int .i64 oc, .string os, .string ot]] : Array Value) h fun rv h' => rv = .tuple #[.bool true, .int .i64 ((dueF s k oa ob os : Nat) : Int), .int .i64 ((stepV s k oa : Nat) : Int)] ∧ ∃ a' cap', WJ base h' X b M a' cap' (stepS s k oa ob os) (stepS s k oa ob os) ∧ WEx X b M h h' a a' := by
  refine FC_of [(0, .pointer (some ⟨X, 0, none⟩)), (1, .pointer (some ⟨M, 0, none⟩)), (2, .agg #[.int .i64 k, .int .i64 oa, .int .i64 ob, .int .i64 oc, .string os, .string ot])] Try.func13 rfl Try.ntmps13 (by simp) rfl (fun R hR => ?_)
  refine V_sr T.mix (by kernel_rfl) (fun K1 hK1 => ?_)
  refine S_boxA rfl ?_
  generalize hh : Array.push h _ = h1
  have hO : B h1 h.size #[.int .i64 k, .int .i64 oa, .int .i64 ob, .int .i64 oc, .string os, .string ot] 36 := by rw [← hh]; exact B.new _ _ _
  have hEh1 : Ext (fun _ => False) h h1 := by rw [← hh]; exact Ext.push _ _ _
  clear hh
  replace w := w.ext hEh1 (fun _ f => f.elim)
  have hO0 : cellH h1 ⟨h.size, 0, none⟩ = some (.int .i64 k) := hO.cell 0
  have hO1 : cellH h1 ⟨h.size, 1, none⟩ = some (.int .i64 oa) := hO.cell 1
  have hO2 : cellH h1 ⟨h.size, 2, none⟩ = some (.int .i64 ob) := hO.cell 2
  have hO4 : cellH h1 ⟨h.size, 4, none⟩ = some (.string os) := hO.cell 4
  refine S_as rfl ?_
  refine S_as rfl ?_
  refine S_as rfl ?_
  refine S_nil (hK1 _ _ (V_keep [0, 1, 5] (by simp only [proj, lk, reduceIte, Nat.reduceEqDiff]; rfl) ?_)); clear hK1
  refine V_seq (fun K2 hK2 => ?_)
  refine V_sr T.mix (by kernel_rfl) (fun K3 hK3 => ?_)
  first | refine S_fa0 T.f36_0 rfl ?_ | refine S_fa T.f36_0 rfl ?_
  refine S_ldK T.ag3 rfl (fun K' hK' => ?_)
  simp (disch := omega) only [hO0, hO1, hO2, hO4, oP_some, Nat.add_zero]
  refine hK' _ ?_; clear hK' K'
  refine S_nil (hK3 _ _ (V_keep [0, 1, 5, 16] (by simp only [proj, lk, reduceIte, Nat.reduceEqDiff]; rfl) ?_)); clear hK3
  refine V_block ?_
  refine V_sr T.mix (by kernel_rfl) (fun K4 hK4 => ?_)
  refine S_bin rfl rfl rfl ?_
  refine S_as rfl ?_
  refine S_nil (hK4 _ _ (V_keep [0, 1, 5, 16, 17] (by simp only [proj, lk, reduceIte, Nat.reduceEqDiff]; rfl) ?_)); clear hK4
  refine V_condp rfl (fun c105 => ?_) (fun c105 => ?_)
  · skip
    obtain ⟨e1, e2, e3⟩ := sp1 (s := s) (oa := oa) (ob := ob) (os := os) c105
    refine V_sr T.mix (by kernel_rfl) (fun K5 hK5 => ?_)
    refine S_mv rfl ?_
    refine S_call T.hb24 rfl ?_
    refine FC.mono (reset_spec h1 X b s w.r) ?_
    rintro v h2 ⟨rfl, r1, hE1⟩
    have w1 := w.real r1 hE1
    refine S_nil (hK5 _ _ (V_keep [1] (by simp only [proj, lk, reduceIte, Nat.reduceEqDiff]; rfl) ?_)); clear hK5
    refine V_reg T.mix (by kernel_rfl) ?_
    refine S_mv rfl ?_
    refine S_call T.hb25 rfl ?_
    refine FC.mono (mreset_spec h2 M a cap s w1.m) ?_
    rintro v h3 ⟨rfl, a2, c2, m2, hX2⟩
    have w2 := w1.model w1.hb m2 hX2
    have hW := ((WEx.quiet (X := X) (b := b) (M := M) a hEh1).trans (WEx.real a hE1)).trans (WEx.model hX2)
    refine S_nilk [] (by simp only [proj, lk, reduceIte, Nat.reduceEqDiff]; rfl) ?_
    refine hK2 _ _ ?_; clear hK2
    refine V_sr T.mix (by kernel_rfl) (fun K6 hK6 => ?_)
    refine S_as rfl ?_
    refine S_as rfl ?_
    refine S_as rfl ?_
    refine S_nil (hK6 _ _ (V_keep [6, 7, 8] (by simp only [proj, lk, reduceIte, Nat.reduceEqDiff]; rfl) ?_)); clear hK6
    refine V_ret ?_
    refine hR _ _ (ret3 rfl rfl rfl rfl ?_)
    exact ⟨by rw [e1, e3]; rfl, a2, c2, by rw [e2]; exact w2, hW⟩
  · skip
    refine V_sr T.mix (by kernel_rfl) (fun K7 hK7 => ?_)
    refine S_bin rfl rfl rfl ?_
    refine S_as rfl ?_
    refine S_nil (hK7 _ _ (V_keep [0, 1, 5, 16, 23] (by simp only [proj, lk, reduceIte, Nat.reduceEqDiff]; rfl) ?_)); clear hK7
    refine V_condp rfl (fun c108 => ?_) (fun c108 => ?_)
    · skip
      obtain ⟨e1, e2, e3⟩ := sp2 (s := s) (oa := oa) (ob := ob) (os := os) c108
      refine V_sr T.mix (by kernel_rfl) (fun K8 hK8 => ?_)
      refine S_mv rfl ?_
      refine S_mv rfl ?_
      first | refine S_fa0 T.f36_4 rfl ?_ | refine S_fa T.f36_4 rfl ?_
      refine S_ldK T.ag9 rfl (fun K' hK' => ?_)
      simp (disch := omega) only [hO0, hO1, hO2, hO4, oP_some, Nat.add_zero]
      refine hK' _ ?_; clear hK' K'
      refine S_call T.hb26 rfl ?_
      refine FC.mono (sameload_spec base h1 X b M a cap s w os) ?_
      rintro v h2 ⟨rfl, a2, c2, w2, hW⟩
      replace hW := (WEx.quiet (X := X) (b := b) (M := M) a hEh1).trans hW
      refine S_mv rfl ?_
      refine S_ex rfl rfl ?_
      refine S_ex rfl rfl ?_
      refine S_as rfl ?_
      refine S_as rfl ?_
      refine S_nil (hK8 _ _ (V_keep [9, 10] (by simp only [proj, lk, reduceIte, Nat.reduceEqDiff]; rfl) ?_)); clear hK8
      refine V_sr T.mix (by kernel_rfl) (fun K9 hK9 => ?_)
      refine S_mv rfl ?_
      refine S_mv rfl ?_
      refine S_as rfl ?_
      refine S_as rfl ?_
      refine S_as rfl ?_
      refine S_nil (hK9 _ _ (V_keep [6, 7, 8] (by simp only [proj, lk, reduceIte, Nat.reduceEqDiff]; rfl) ?_)); clear hK9
      refine V_ret ?_
      refine hR _ _ (ret3 rfl rfl rfl rfl ?_)
      exact ⟨by rw [e1, e3]; rfl, a2, c2, by rw [e2]; exact w2, hW⟩
    · skip
      refine V_sr T.mix (by kernel_rfl) (fun K10 hK10 => ?_)
      refine S_bin rfl rfl rfl ?_
      refine S_as rfl ?_
      refine S_nil (hK10 _ _ (V_keep [0, 1, 5, 16, 35] (by simp only [proj, lk, reduceIte, Nat.reduceEqDiff]; rfl) ?_)); clear hK10
      refine V_condp rfl (fun c111 => ?_) (fun c111 => ?_)
      · skip
        obtain ⟨e1, e2, e3⟩ := sp3 (s := s) (oa := oa) (ob := ob) (os := os) c111
        refine V_sr T.mix (by kernel_rfl) (fun K11 hK11 => ?_)
        refine S_mv rfl ?_
        refine S_mv rfl ?_
        first | refine S_fa0 T.f36_1 rfl ?_ | refine S_fa T.f36_1 rfl ?_
        refine S_ldK T.ag3 rfl (fun K' hK' => ?_)
        simp (disch := omega) only [hO0, hO1, hO2, hO4, oP_some, Nat.add_zero]
        refine hK' _ ?_; clear hK' K'
        first | refine S_fa0 T.f36_2 rfl ?_ | refine S_fa T.f36_2 rfl ?_
        refine S_ldK T.ag3 rfl (fun K' hK' => ?_)
        simp (disch := omega) only [hO0, hO1, hO2, hO4, oP_some, Nat.add_zero]
        refine hK' _ ?_; clear hK' K'
        refine S_call T.hb27 rfl ?_
        refine FC.mono (sameput_spec base h1 X b M a cap s w oa ob) ?_
        rintro v h2 ⟨rfl, a2, c2, w2, hW⟩
        replace hW := (WEx.quiet (X := X) (b := b) (M := M) a hEh1).trans hW
        refine S_mv rfl ?_
        refine S_ex rfl rfl ?_
        refine S_ex rfl rfl ?_
        refine S_as rfl ?_
        refine S_as rfl ?_
        refine S_nil (hK11 _ _ (V_keep [11, 12] (by simp only [proj, lk, reduceIte, Nat.reduceEqDiff]; rfl) ?_)); clear hK11
        refine V_sr T.mix (by kernel_rfl) (fun K12 hK12 => ?_)
        refine S_mv rfl ?_
        refine S_mv rfl ?_
        refine S_as rfl ?_
        refine S_as rfl ?_
        refine S_as rfl ?_
        refine S_nil (hK12 _ _ (V_keep [6, 7, 8] (by simp only [proj, lk, reduceIte, Nat.reduceEqDiff]; rfl) ?_)); clear hK12
        refine V_ret ?_
        refine hR _ _ (ret3 rfl rfl rfl rfl ?_)
        exact ⟨by rw [e1, e3]; rfl, a2, c2, by rw [e2]; exact w2, hW⟩
      · skip
        refine V_sr T.mix (by kernel_rfl) (fun K13 hK13 => ?_)
        refine S_bin rfl rfl rfl ?_
        refine S_as rfl ?_
        refine S_nil (hK13 _ _ (V_keep [0, 1, 5, 16, 49] (by simp only [proj, lk, reduceIte, Nat.reduceEqDiff]; rfl) ?_)); clear hK13
        refine V_condp rfl (fun c114 => ?_) (fun c114 => ?_)
        · skip
          obtain ⟨e1, e2, e3⟩ := sp4 (s := s) (oa := oa) (ob := ob) (os := os) c114
          refine V_sr T.mix (by kernel_rfl) (fun K14 hK14 => ?_)
          refine S_mv rfl ?_
          refine S_call T.hb28 rfl ?_
          refine FC.mono (pad_spec h1 X b s w.r) ?_
          rintro v h2 ⟨rfl, r1, hE1⟩
          have w1 := w.real r1 hE1
          refine S_nil (hK14 _ _ (V_keep [1] (by simp only [proj, lk, reduceIte, Nat.reduceEqDiff]; rfl) ?_)); clear hK14
          refine V_reg T.mix (by kernel_rfl) ?_
          refine S_mv rfl ?_
          refine S_call T.hb29 rfl ?_
          refine FC.mono (mpad_spec h2 M a cap s w1.m) ?_
          rintro v h3 ⟨rfl, a2, c2, m2, hX2⟩
          have w2 := w1.model w1.hb m2 hX2
          have hW := ((WEx.quiet (X := X) (b := b) (M := M) a hEh1).trans (WEx.real a hE1)).trans (WEx.model hX2)
          refine S_nilk [] (by simp only [proj, lk, reduceIte, Nat.reduceEqDiff]; rfl) ?_
          refine hK2 _ _ ?_; clear hK2
          refine V_sr T.mix (by kernel_rfl) (fun K15 hK15 => ?_)
          refine S_as rfl ?_
          refine S_as rfl ?_
          refine S_as rfl ?_
          refine S_nil (hK15 _ _ (V_keep [6, 7, 8] (by simp only [proj, lk, reduceIte, Nat.reduceEqDiff]; rfl) ?_)); clear hK15
          refine V_ret ?_
          refine hR _ _ (ret3 rfl rfl rfl rfl ?_)
          exact ⟨by rw [e1, e3]; rfl, a2, c2, by rw [e2]; exact w2, hW⟩
        · skip
          refine V_sr T.mix (by kernel_rfl) (fun K16 hK16 => ?_)
          refine S_bin rfl rfl rfl ?_
          refine S_as rfl ?_
          refine S_nil (hK16 _ _ (V_keep [0, 1, 5, 16, 55] (by simp only [proj, lk, reduceIte, Nat.reduceEqDiff]; rfl) ?_)); clear hK16
          refine V_condp rfl (fun c117 => ?_) (fun c117 => ?_)
          · skip
            obtain ⟨e1, e2, e3⟩ := sp5 (s := s) (oa := oa) (ob := ob) (os := os) c117
            refine V_sr T.mix (by kernel_rfl) (fun K17 hK17 => ?_)
            refine S_mv rfl ?_
            refine S_mv rfl ?_
            first | refine S_fa0 T.f36_1 rfl ?_ | refine S_fa T.f36_1 rfl ?_
            refine S_ldK T.ag3 rfl (fun K' hK' => ?_)
            simp (disch := omega) only [hO0, hO1, hO2, hO4, oP_some, Nat.add_zero]
            refine hK' _ ?_; clear hK' K'
            refine S_call T.hb30 rfl ?_
            refine FC.mono (sametake_spec base h1 X b M a cap s w oa) ?_
            rintro v h2 ⟨rfl, a2, c2, w2, hW⟩
            replace hW := (WEx.quiet (X := X) (b := b) (M := M) a hEh1).trans hW
            refine S_ex rfl rfl ?_
            refine S_ex rfl rfl ?_
            refine S_ex rfl rfl ?_
            refine S_as rfl ?_
            refine S_as rfl ?_
            refine S_as rfl ?_
            refine S_nil (hK17 _ _ (V_keep [6, 7, 8] (by simp only [proj, lk, reduceIte, Nat.reduceEqDiff]; rfl) ?_)); clear hK17
            refine V_ret ?_
            refine hR _ _ (ret3 rfl rfl rfl rfl ?_)
            exact ⟨by rw [e1, e3]; rfl, a2, c2, by rw [e2]; exact w2, hW⟩
          · skip
            refine V_sr T.mix (by kernel_rfl) (fun K18 hK18 => ?_)
            refine S_bin rfl rfl rfl ?_
            refine S_as rfl ?_
            refine S_nil (hK18 _ _ (V_keep [0, 1, 5, 16, 65] (by simp only [proj, lk, reduceIte, Nat.reduceEqDiff]; rfl) ?_)); clear hK18
            refine V_condp rfl (fun c119 => ?_) (fun c119 => ?_)
            · skip
              obtain ⟨e1, e2, e3⟩ := sp6 (s := s) (oa := oa) (ob := ob) (os := os) c119
              refine V_sr T.mix (by kernel_rfl) (fun K19 hK19 => ?_)
              refine S_mv rfl ?_
              refine S_mv rfl ?_
              first | refine S_fa0 T.f36_1 rfl ?_ | refine S_fa T.f36_1 rfl ?_
              refine S_ldK T.ag3 rfl (fun K' hK' => ?_)
              simp (disch := omega) only [hO0, hO1, hO2, hO4, oP_some, Nat.add_zero]
              refine hK' _ ?_; clear hK' K'
              refine S_call T.hb31 rfl ?_
              refine FC.mono (sameskip_spec base h1 X b M a cap s w oa) ?_
              rintro v h2 ⟨rfl, a2, c2, w2, hW⟩
              replace hW := (WEx.quiet (X := X) (b := b) (M := M) a hEh1).trans hW
              refine S_mv rfl ?_
              refine S_ex rfl rfl ?_
              refine S_ex rfl rfl ?_
              refine S_as rfl ?_
              refine S_as rfl ?_
              refine S_nil (hK19 _ _ (V_keep [13, 14] (by simp only [proj, lk, reduceIte, Nat.reduceEqDiff]; rfl) ?_)); clear hK19
              refine V_sr T.mix (by kernel_rfl) (fun K20 hK20 => ?_)
              refine S_mv rfl ?_
              refine S_mv rfl ?_
              refine S_as rfl ?_
              refine S_as rfl ?_
              refine S_as rfl ?_
              refine S_nil (hK20 _ _ (V_keep [6, 7, 8] (by simp only [proj, lk, reduceIte, Nat.reduceEqDiff]; rfl) ?_)); clear hK20
              refine V_ret ?_
              refine hR _ _ (ret3 rfl rfl rfl rfl ?_)
              exact ⟨by rw [e1, e3]; rfl, a2, c2, by rw [e2]; exact w2, hW⟩
            · skip
              refine V_sr T.mix (by kernel_rfl) (fun K21 hK21 => ?_)
              refine S_bin rfl rfl rfl ?_
              refine S_as rfl ?_
              refine S_nil (hK21 _ _ (V_keep [0, 1, 5, 16, 77] (by simp only [proj, lk, reduceIte, Nat.reduceEqDiff]; rfl) ?_)); clear hK21
              refine V_condp rfl (fun c122 => ?_) (fun c122 => ?_)
              · skip
                obtain ⟨e1, e2, e3⟩ := sp7 (s := s) (oa := oa) (ob := ob) (os := os) c122
                refine V_sr T.mix (by kernel_rfl) (fun K22 hK22 => ?_)
                refine S_mv rfl ?_
                refine S_call T.hb32 rfl ?_
                refine FC.mono (sync_spec h1 X b s w.r) ?_
                rintro v h2 ⟨rfl, r1, hE1⟩
                have w1 := w.real r1 hE1
                refine S_nil (hK22 _ _ (V_keep [1] (by simp only [proj, lk, reduceIte, Nat.reduceEqDiff]; rfl) ?_)); clear hK22
                refine V_reg T.mix (by kernel_rfl) ?_
                refine S_mv rfl ?_
                refine S_call T.hb33 rfl ?_
                refine FC.mono (msync_spec h2 M a cap s w1.m) ?_
                rintro v h3 ⟨rfl, a2, c2, m2, hX2⟩
                have w2 := w1.model w1.hb m2 hX2
                have hW := ((WEx.quiet (X := X) (b := b) (M := M) a hEh1).trans (WEx.real a hE1)).trans (WEx.model hX2)
                refine S_nilk [] (by simp only [proj, lk, reduceIte, Nat.reduceEqDiff]; rfl) ?_
                refine hK2 _ _ ?_; clear hK2
                refine V_sr T.mix (by kernel_rfl) (fun K23 hK23 => ?_)
                refine S_as rfl ?_
                refine S_as rfl ?_
                refine S_as rfl ?_
                refine S_nil (hK23 _ _ (V_keep [6, 7, 8] (by simp only [proj, lk, reduceIte, Nat.reduceEqDiff]; rfl) ?_)); clear hK23
                refine V_ret ?_
                refine hR _ _ (ret3 rfl rfl rfl rfl ?_)
                exact ⟨by rw [e1, e3]; rfl, a2, c2, by rw [e2]; exact w2, hW⟩
              · skip
                refine V_sr T.mix (by kernel_rfl) (fun K24 hK24 => ?_)
                refine S_bin rfl rfl rfl ?_
                refine S_as rfl ?_
                refine S_nil (hK24 _ _ (V_keep [0, 1, 5, 16, 83] (by simp only [proj, lk, reduceIte, Nat.reduceEqDiff]; rfl) ?_)); clear hK24
                refine V_condp rfl (fun c125 => ?_) (fun c125 => ?_)
                · skip
                  obtain ⟨e1, e2, e3⟩ := sp0 (s := s) (oa := oa) (ob := ob) (os := os) (k := k) (by omega)
                  have hWq := WEx.quiet (X := X) (b := b) (M := M) a hEh1
                  refine V_sr T.mix (by kernel_rfl) (fun K25 hK25 => ?_)
                  refine S_mv rfl ?_
                  refine S_mv rfl ?_
                  refine S_call T.hb18 rfl ?_
                  refine FC.mono (sametext_spec base h1 X b M a cap s w) ?_
                  rintro v h2 ⟨rfl, hE2⟩
                  have w2 := w.ext hE2 (fun _ f => f.elim)
                  have hWt := WEx.quiet (X := X) (b := b) (M := M) a (hEh1.trans hE2)
                  refine S_as rfl ?_
                  refine S_as rfl ?_
                  refine S_as rfl ?_
                  refine S_nil (hK25 _ _ (V_keep [6, 7, 8] (by simp only [proj, lk, reduceIte, Nat.reduceEqDiff]; rfl) ?_)); clear hK25
                  refine V_ret ?_
                  refine hR _ _ (ret3 rfl rfl rfl rfl ?_)
                  exact ⟨by rw [e1, e3]; rfl, a, cap, by rw [e2]; exact w2, hWt⟩
                · skip
                  refine V_sr T.mix (by kernel_rfl) (fun K26 hK26 => ?_)
                  refine S_bin rfl rfl rfl ?_
                  refine S_as rfl ?_
                  refine S_nil (hK26 _ _ (V_keep [0, 1, 5, 16, 88] (by simp only [proj, lk, reduceIte, Nat.reduceEqDiff]; rfl) ?_)); clear hK26
                  refine V_condp rfl (fun c127 => ?_) (fun c127 => ?_)
                  · skip
                    obtain ⟨e1, e2, e3⟩ := sp0 (s := s) (oa := oa) (ob := ob) (os := os) (k := k) (by omega)
                    have hWq := WEx.quiet (X := X) (b := b) (M := M) a hEh1
                    refine V_sr T.mix (by kernel_rfl) (fun K27 hK27 => ?_)
                    refine S_mv rfl ?_
                    refine S_mv rfl ?_
                    first | refine S_fa0 T.f36_1 rfl ?_ | refine S_fa T.f36_1 rfl ?_
                    refine S_ldK T.ag3 rfl (fun K' hK' => ?_)
                    simp (disch := omega) only [hO0, hO1, hO2, hO4, oP_some, Nat.add_zero]
                    refine hK' _ ?_; clear hK' K'
                    refine S_call T.hb19 rfl ?_
                    refine FC.mono (samepeek_spec base h1 X b M a cap s w oa) ?_
                    rintro v h' ⟨rfl, rfl⟩
                    refine S_as rfl ?_
                    refine S_as rfl ?_
                    refine S_as rfl ?_
                    refine S_nil (hK27 _ _ (V_keep [6, 7, 8] (by simp only [proj, lk, reduceIte, Nat.reduceEqDiff]; rfl) ?_)); clear hK27
                    refine V_ret ?_
                    refine hR _ _ (ret3 rfl rfl rfl rfl ?_)
                    exact ⟨by rw [e1, e3]; rfl, a, cap, by rw [e2]; exact w, hWq⟩
                  · skip
                    refine V_sr T.mix (by kernel_rfl) (fun K28 hK28 => ?_)
                    refine S_bin rfl rfl rfl ?_
                    refine S_as rfl ?_
                    refine S_nil (hK28 _ _ (V_keep [0, 1, 16, 95] (by simp only [proj, lk, reduceIte, Nat.reduceEqDiff]; rfl) ?_)); clear hK28
                    refine V_condp rfl (fun c129 => ?_) (fun c129 => ?_)
                    · skip
                      obtain ⟨e1, e2, e3⟩ := sp0 (s := s) (oa := oa) (ob := ob) (os := os) (k := k) (by omega)
                      have hWq := WEx.quiet (X := X) (b := b) (M := M) a hEh1
                      refine V_sr T.mix (by kernel_rfl) (fun K29 hK29 => ?_)
                      refine S_mv rfl ?_
                      refine S_mv rfl ?_
                      refine S_call T.hb16 rfl ?_
                      refine FC.mono (samepos_spec base h1 X b M a cap s w) ?_
                      rintro v h' ⟨rfl, rfl⟩
                      refine S_as rfl ?_
                      refine S_as rfl ?_
                      refine S_as rfl ?_
                      refine S_nil (hK29 _ _ (V_keep [6, 7, 8] (by simp only [proj, lk, reduceIte, Nat.reduceEqDiff]; rfl) ?_)); clear hK29
                      refine V_ret ?_
                      refine hR _ _ (ret3 rfl rfl rfl rfl ?_)
                      exact ⟨by rw [e1, e3]; rfl, a, cap, by rw [e2]; exact w, hWq⟩
                    · skip
                      refine V_sr T.mix (by kernel_rfl) (fun K30 hK30 => ?_)
                      refine S_bin rfl rfl rfl ?_
                      refine S_as rfl ?_
                      refine S_nil (hK30 _ _ (V_keep [0, 1, 16, 100] (by simp only [proj, lk, reduceIte, Nat.reduceEqDiff]; rfl) ?_)); clear hK30
                      refine V_condp rfl (fun c131 => ?_) (fun c131 => ?_)
                      · skip
                        obtain ⟨e1, e2, e3⟩ := sp0 (s := s) (oa := oa) (ob := ob) (os := os) (k := k) (by omega)
                        have hWq := WEx.quiet (X := X) (b := b) (M := M) a hEh1
                        refine V_sr T.mix (by kernel_rfl) (fun K31 hK31 => ?_)
                        refine S_mv rfl ?_
                        refine S_mv rfl ?_
                        refine S_call T.hb17 rfl ?_
                        refine FC.mono (samelen_spec base h1 X b M a cap s w) ?_
                        rintro v h' ⟨rfl, rfl⟩
                        refine S_as rfl ?_
                        refine S_as rfl ?_
                        refine S_as rfl ?_
                        refine S_nil (hK31 _ _ (V_keep [6, 7, 8] (by simp only [proj, lk, reduceIte, Nat.reduceEqDiff]; rfl) ?_)); clear hK31
                        refine V_ret ?_
                        refine hR _ _ (ret3 rfl rfl rfl rfl ?_)
                        exact ⟨by rw [e1, e3]; rfl, a, cap, by rw [e2]; exact w, hWq⟩
                      · skip
                        refine V_sr T.mix (by kernel_rfl) (fun K32 hK32 => ?_)
                        refine S_bin rfl rfl rfl ?_
                        refine S_as rfl ?_
                        refine S_nil (hK32 _ _ (V_keep [0, 105] (by simp only [proj, lk, reduceIte, Nat.reduceEqDiff]; rfl) ?_)); clear hK32
                        refine V_condp rfl (fun c133 => ?_) (fun c133 => ?_)
                        · skip
                          obtain ⟨e1, e2, e3⟩ := sp0 (s := s) (oa := oa) (ob := ob) (os := os) (k := k) (by omega)
                          have hWq := WEx.quiet (X := X) (b := b) (M := M) a hEh1
                          refine V_sr T.mix (by kernel_rfl) (fun K33 hK33 => ?_)
                          refine S_mv rfl ?_
                          refine S_call T.hb20 rfl ?_
                          refine FC.mono (check_spec h1 X b s w.r) ?_
                          rintro v h' ⟨rfl, rfl⟩
                          refine S_as rfl ?_
                          refine S_as rfl ?_
                          refine S_as rfl ?_
                          refine S_nil (hK33 _ _ (V_keep [6, 7, 8] (by simp only [proj, lk, reduceIte, Nat.reduceEqDiff]; rfl) ?_)); clear hK33
                          refine V_ret ?_
                          refine hR _ _ (ret3 rfl rfl rfl rfl ?_)
                          exact ⟨by rw [e1, e3]; rfl, a, cap, by rw [e2]; exact w, hWq⟩
                        · skip
                          obtain ⟨e1, e2, e3⟩ := sp0 (s := s) (oa := oa) (ob := ob) (os := os) (k := k) (by omega)
                          have hWq := WEx.quiet (X := X) (b := b) (M := M) a hEh1
                          refine V_skipk [] (by simp only [proj, lk, reduceIte, Nat.reduceEqDiff]; rfl) ?_
                          refine hK2 _ _ ?_; clear hK2
                          refine V_sr T.mix (by kernel_rfl) (fun K34 hK34 => ?_)
                          refine S_as rfl ?_
                          refine S_as rfl ?_
                          refine S_as rfl ?_
                          refine S_nil (hK34 _ _ (V_keep [6, 7, 8] (by simp only [proj, lk, reduceIte, Nat.reduceEqDiff]; rfl) ?_)); clear hK34
                          refine V_ret ?_
                          refine hR _ _ (ret3 rfl rfl rfl rfl ?_)
                          exact ⟨by rw [e1, e3]; rfl, a, cap, by rw [e2]; exact w, hWq⟩
set_option maxHeartbeats 400000 in
theorem ground_spec (h : Heap) :
    FC Try.prog 8 (#[] : Array Value) h fun v h' => v = .agg #[] ∧ Ext (fun _ => False) h h' := by
  refine FC_of [] Try.func8 rfl Try.ntmps8 (by simp) rfl (fun R hR => ?_)
  refine V_sr T.mix (by kernel_rfl) (fun K1 hK1 => ?_)
  refine S_allocA T.z28 ?_
  generalize hh : Array.push h _ = h1
  have hB : B h1 h.size #[] 28 := by rw [← hh]; exact B.new _ _ _
  have hE1 : Ext (fun _ => False) h h1 := by rw [← hh]; exact Ext.push _ _ _
  clear hh
  refine S_nil (hK1 _ _ (V_keep [0] (by simp only [proj, lk, reduceIte, Nat.reduceEqDiff]; rfl) ?_)); clear hK1
  refine V_sr T.mix (by kernel_rfl) (fun K2 hK2 => ?_)
  refine S_bld rfl (T.bld28) ?_
  refine S_stl (vs := []) T.sz28 rfl rfl rfl rfl (fun j hj => absurd hj (by omega)) ?_
  refine S_nil (hK2 _ _ (V_keep [0] (by simp only [proj, lk, reduceIte, Nat.reduceEqDiff]; rfl) ?_)); clear hK2
  refine V_ret ?_
  refine hR _ _ (retc1 rfl rfl T.ag28 hB (by rfl) ?_)
  exact ⟨rfl, hE1⟩
set_option maxHeartbeats 1600000 in
theorem walk_spec (h : Heap) (sa : Option Addr) (n cap : Nat) (q : Bool) (hs : Scr h.size h sa n) (hn : n ≤ 9223372036854775807) :
    FC Try.prog 7 (#[.slice sa n cap, .bool (decide (q = true))] : Array Value) h fun v h' => (∃ j : Int, v = .tuple #[.int .i64 (-1), .int .i64 j]) ∧ Ext (fun b => h.size ≤ b) h h' := by
  refine FC_of [(0, .slice sa n cap), (1, .bool (decide (q = true)))] Try.func7 rfl Try.ntmps7 (by simp) rfl (fun R hR => ?_)
  refine V_sr T.mix (by kernel_rfl) (fun K1 hK1 => ?_)
  refine S_as rfl ?_
  refine S_as rfl ?_
  refine S_nil (hK1 _ _ (V_keep [0, 1] (by simp only [proj, lk, reduceIte, Nat.reduceEqDiff]; rfl) ?_)); clear hK1
  refine V_sr T.mix (by kernel_rfl) (fun K2 hK2 => ?_)
  refine S_call T.hb8 rfl ?_
  refine FC.mono (ground_spec h) ?_
  rintro v h0 ⟨rfl, hE0⟩
  refine S_nil (hK2 _ _ (V_keep [0, 1] (by simp only [proj, lk, reduceIte, Nat.reduceEqDiff]; rfl) ?_)); clear hK2
  refine V_sr T.mix (by kernel_rfl) (fun K3 hK3 => ?_)
  refine S_call T.hb9 rfl ?_
  refine FC.mono (new_spec h0) ?_
  rintro v h1 ⟨X, y, rfl, r1, hE1, hX, hyb⟩
  refine S_as rfl ?_
  refine S_nil (hK3 _ _ (V_keep [0, 1, 6] (by simp only [proj, lk, reduceIte, Nat.reduceEqDiff]; rfl) ?_)); clear hK3
  refine V_sr T.mix (by kernel_rfl) (fun K4 hK4 => ?_)
  refine S_call T.hb10 rfl ?_
  have hXl := r1.t.lt
  have hbl := r1.bb.lt
  generalize hM : h1.size = M
  refine FC.mono (mnew_spec h1) ?_
  rintro v h2 ⟨rfl, m2, hE2⟩
  rw [hM] at m2
  rw [hM]
  have hs0 := hE0.1
  have hs1 := hE1.1
  have w0 : WJ h.size h2 X y M none 0 ⟨0, 0, 0⟩ ⟨0, 0, 0⟩ := ⟨r1.ext hE2 (fun f => f) (fun f => f), m2, by omega, by omega, fun c hc => by simp [blkA] at hc, by omega, by omega, by omega⟩
  have hEs : Ext (fun c => h.size ≤ c) h h2 := ((hE0.trans hE1).trans hE2).mono fun _ f => f.elim
  refine S_as rfl ?_
  refine S_nil (hK4 _ _ (V_keep [0, 1, 6, 7] (by simp only [proj, lk, reduceIte, Nat.reduceEqDiff]; rfl) ?_)); clear hK4
  refine V_seqJ (fun l h' => ∃ (h3 : Heap), (WJ h.size h3 X y M none 0 ⟨0, 0, 0⟩ ⟨0, 0, 0⟩) ∧ (Ext (fun c => h.size ≤ c) h h3) ∧ l = [(0, .slice sa n cap), (1, .bool (decide (q = true))), (6, .pointer (some ⟨X, 0, none⟩)), (7, .pointer (some ⟨M, 0, none⟩))] ∧ h3 = h') ?_ ?_
  · skip
    refine V_sr T.mix (by kernel_rfl) (fun K6 hK6 => ?_)
    refine S_mv rfl ?_
    refine S_not rfl ?_
    refine S_nil (hK6 _ _ (V_keep [0, 1, 6, 7, 19] (by simp only [proj, lk, reduceIte, Nat.reduceEqDiff]; rfl) ?_)); clear hK6
    refine V_condp rfl (fun c145 => ?_) (fun c145 => ?_)
    · skip
      refine V_sr T.mix (by kernel_rfl) (fun K7 hK7 => ?_)
      refine S_mv rfl ?_
      refine S_mv rfl ?_
      refine S_call T.hb11 rfl ?_
      refine FC.mono (alike_spec h.size h2 X y M none 0 _ w0) ?_
      rintro v h3 ⟨rfl, hE3⟩
      refine S_notb rfl ?_
      refine S_nil (hK7 _ _ (V_keep [0, 1, 6, 7, 23] (by simp only [proj, lk, reduceIte, Nat.reduceEqDiff]; rfl) ?_)); clear hK7
      refine V_condb rfl (fun c146 => ?_) (fun c146 => ?_)
      · skip
        cases c146
      · skip
        refine V_skipk [0, 1, 6, 7] (by simp only [proj, lk, reduceIte, Nat.reduceEqDiff]; rfl) ?_
        exact ⟨h3, w0.ext hE3 (fun _ f => f.elim), hEs.trans (hE3.mono fun _ f => f.elim), rfl, rfl⟩
    · skip
      refine V_skipk [0, 1, 6, 7] (by simp only [proj, lk, reduceIte, Nat.reduceEqDiff]; rfl) ?_
      exact ⟨h2, w0, hEs, rfl, rfl⟩
  rintro l h' ⟨h3, w3, hE3s, rfl, rfl⟩
  refine V_seq (fun K8 hK8 => ?_)
  refine V_sr T.mix (by kernel_rfl) (fun K9 hK9 => ?_)
  refine S_as rfl ?_
  refine S_nil (hK9 _ _ (V_keep [0, 1, 6, 7, 8] (by simp only [proj, lk, reduceIte, Nat.reduceEqDiff]; rfl) ?_)); clear hK9
  refine V_block ?_
  refine V_loop (fun m l h' => ∃ (i : Nat) (hk : Heap) (ak : Option Addr) (ck : Nat) (sk : TS), (i ≤ n) ∧ (i ≤ 4398046511104) ∧ (WJ h.size hk X y M ak ck sk sk) ∧ (Ext (fun c => h.size ≤ c) h hk) ∧ m = n - i ∧ l = [(0, .slice sa n cap), (1, .bool (decide (q = true))), (6, .pointer (some ⟨X, 0, none⟩)), (7, .pointer (some ⟨M, 0, none⟩)), (8, .int .i64 i)] ∧ hk = h') _ ⟨0, h3, none, 0, ⟨0, 0, 0⟩, by omega, by omega, w3, hE3s, rfl, rfl, rfl⟩ ?_
  rintro m l h' ⟨i, hk, ak, ck, sk, hi, hi2, w, hE, rfl, rfl, rfl⟩ K10 hK10
  have okk := w.m.ok
  have hsk := w.hb
  refine V_seq (fun K11 hK11 => ?_)
  refine V_sr T.mix (by kernel_rfl) (fun K12 hK12 => ?_)
  refine S_cut (K' := fun l h' => ∃ b : Bool, (b = true ↔ (i < n ∧ i < 4398046511104)) ∧ l = [(0, .slice sa n cap), (1, .bool (decide (q = true))), (6, .pointer (some ⟨X, 0, none⟩)), (7, .pointer (some ⟨M, 0, none⟩)), (8, .int .i64 i), (31, .bool b)] ∧ hk = h') ?_ ?_
  · skip
    refine S_mv rfl ?_
    refine S_mv rfl ?_
    refine S_lenl T.el22 rfl ?_
    refine S_bin rfl rfl rfl ?_
    refine S_mv rfl ?_
    refine S_dec (fun g150 => ?_) (fun g150 => ?_)
    · skip
      refine S_gt rfl ?_
      refine S_mv rfl ?_
      refine S_gt rfl ?_
      refine S_bin rfl rfl rfl ?_
      refine S_pt rfl rfl ?_
      exact S_nilk [0, 1, 6, 7, 8, 31] (by simp only [proj, lk, reduceIte, Nat.reduceEqDiff]; rfl) ⟨_, (by first | (simp [*]; done) | (simp; omega)), rfl, rfl⟩
    · skip
      refine S_gf rfl ?_
      refine S_gf rfl ?_
      refine S_pf rfl rfl ?_
      exact S_nilk [0, 1, 6, 7, 8, 31] (by simp only [proj, lk, reduceIte, Nat.reduceEqDiff]; rfl) ⟨_, (by first | (simp [*]; done) | (simp; omega)), rfl, rfl⟩
  rintro l h' ⟨b, hb150, rfl, rfl⟩
  refine hK12 _ _ ?_; clear hK12
  refine V_condb rfl (fun c150 => ?_) (fun c150 => ?_)
  · replace c150 := hb150.1 c150
    refine V_skipk [0, 1, 6, 7, 8] (by simp only [proj, lk, reduceIte, Nat.reduceEqDiff]; rfl) ?_
    refine hK11 _ _ ?_; clear hK11
    refine V_seq (fun K14 hK14 => ?_)
    refine V_block ?_
    refine V_sr T.mix (by kernel_rfl) (fun K15 hK15 => ?_)
    refine S_mv rfl ?_
    refine S_mv rfl ?_
    obtain ⟨sb, so, rfl, hlt, k, oa, ob, oc, os, ot, hc⟩ := (hs.ext (Nat.le_refl _) hE) i (by first | exact c150.1 | exact c150a.1)
    refine S_ix T.el22 rfl rfl (by omega) (by omega) ?_
    refine S_ldn T.ag36 rfl (by simpa using hc) ?_
    refine S_allocA T.z36 ?_
    generalize hh : Array.push hk _ = h4
    have hO : B h4 hk.size #[.int .i64 0, .int .i64 0, .int .i64 0, .int .i64 0, .string ⟨#[]⟩, .string ⟨#[]⟩] 36 := by rw [← hh]; exact B.new _ _ _
    have hEh4 : Ext (fun _ => False) hk h4 := by rw [← hh]; exact Ext.push _ _ _
    clear hh
    have hk4 := hO.lt
    have no := w.nin (Nat.le_refl _)
    have hyh4 := hEh4.1
    replace hE := hE.trans (hEh4.mono fun _ f => f.elim)
    replace w := w.ext hEh4 (fun _ f => f.elim)
    have hok : ∀ j, j < 6 → okPut h4 ⟨hk.size, j, none⟩ = true := fun j hj => hO.ok (by simpa using hj)
    refine S_stl T.sz36 rfl rfl rfl rfl (fun j hj => by simp (disch := omega) only [hok]) ?_
    generalize hh : putsH _ _ _ _ = h5
    replace hO : B h5 hk.size #[.int .i64 k, .int .i64 oa, .int .i64 ob, .int .i64 oc, .string os, .string ot] 36 := by rw [← hh]; exact puts_all hO (cs' := #[.int .i64 k, .int .i64 oa, .int .i64 ob, .int .i64 oc, .string os, .string ot]) rfl
    have hEh5 : Ext (fun x => x = hk.size) h4 h5 := by rw [← hh]; exact Ext.puts (S := fun x => x = hk.size) rfl _ _ _
    clear hh
    have hzh5 := w.hb
    have hyh5 := hEh5.1
    replace hE := hE.trans (hEh5.mono fun c (e : c = _) => by omega)
    replace w := w.ext hEh5 (fun c e => by subst e; exact no)
    refine S_nil (hK15 _ _ (V_keep [0, 1, 6, 7, 8, 9] (by simp only [proj, lk, reduceIte, Nat.reduceEqDiff]; rfl) ?_)); clear hK15
    refine V_sr T.mix (by kernel_rfl) (fun K16 hK16 => ?_)
    refine S_mv rfl ?_
    refine S_call T.hb12 rfl ?_
    refine FC.mono (shotof_spec h5 M ak ck sk w.m) ?_
    rintro v h6 ⟨rfl, hEh6⟩
    have hyh6 := hEh6.1
    replace hE := hE.trans (hEh6.mono fun _ f => f.elim)
    replace w := w.ext hEh6 (fun _ f => f.elim)
    replace hO := hO.ext hEh6 (fun f => f)
    refine S_allocA T.z38 ?_
    generalize hh : Array.push h6 _ = h7
    have hA : B h7 h6.size #[.int .i64 0, .int .i64 0, .string ⟨#[]⟩] 38 := by rw [← hh]; exact B.new _ _ _
    have hEh7 : Ext (fun _ => False) h6 h7 := by rw [← hh]; exact Ext.push _ _ _
    clear hh
    have hk7 := hA.lt
    have na := w.nin (Nat.le_refl _)
    have hyh7 := hEh7.1
    replace hE := hE.trans (hEh7.mono fun _ f => f.elim)
    replace w := w.ext hEh7 (fun _ f => f.elim)
    replace hO := hO.ext hEh7 (fun f => f)
    clear hok
    have hok : ∀ j, j < 3 → okPut h7 ⟨h6.size, j, none⟩ = true := fun j hj => hA.ok (by simpa using hj)
    refine S_stl T.sz38 rfl rfl rfl rfl (fun j hj => by simp (disch := omega) only [hok]) ?_
    generalize hh : putsH _ _ _ _ = h8
    replace hA : B h8 h6.size #[.int .i64 (sk.p : Int), .int .i64 (sk.n : Int), .string (txt sk.N sk.n)] 38 := by rw [← hh]; exact puts_all hA (cs' := #[.int .i64 (sk.p : Int), .int .i64 (sk.n : Int), .string (txt sk.N sk.n)]) rfl
    have hEh8 : Ext (fun x => x = h6.size) h7 h8 := by rw [← hh]; exact Ext.puts (S := fun x => x = h6.size) rfl _ _ _
    clear hh
    have hol := hO.lt
    have h64 := hEh6.1
    have hzh8 := w.hb
    have hyh8 := hEh8.1
    replace hE := hE.trans (hEh8.mono fun c (e : c = _) => by omega)
    replace w := w.ext hEh8 (fun c e => by subst e; exact na)
    have ho6 : hk.size ≠ h6.size := by omega
    replace hO := hO.ext hEh8 (fun e => ho6 e)
    refine S_nil (hK16 _ _ (V_keep [0, 1, 6, 7, 8, 9, 10] (by simp only [proj, lk, reduceIte, Nat.reduceEqDiff]; rfl) ?_)); clear hK16
    refine V_sr T.mix (by kernel_rfl) (fun K17 hK17 => ?_)
    refine S_mv rfl ?_
    refine S_mv rfl ?_
    refine S_ldn T.ag36 rfl (hO.all rfl) ?_
    refine S_call T.hb13 rfl ?_
    refine FC.mono (play_spec h.size h8 X y M ak ck sk w k oa ob oc os ot) ?_
    rintro v h9 ⟨rfl, a2, c2, w2, hW⟩
    have hy9 := hW.1.1
    replace hE := hE.trans (WEx.low w hW)
    have hWS : ∀ c, (c = X ∨ c = y ∨ c = M ∨ blkA ak = some c) → ¬ (c ≠ X ∧ c ≠ y ∧ c ≠ M ∧ blkA ak ≠ some c) := fun c e f => by rcases e with e | e | e | e; (exact f.1 e); (exact f.2.1 e); (exact f.2.2.1 e); (exact f.2.2.2 e)
    replace hO := hO.ext hW.1 (fun e => hWS _ e no)
    replace hA := hA.ext hW.1 (fun e => hWS _ e na)
    replace w := w2
    generalize hs2 : stepS sk k oa ob os = s2 at w2 w
    generalize hd2 : dueF sk k oa ob os = e2
    generalize hv2 : stepV sk k oa = v2
    refine S_mv rfl ?_
    refine S_ex rfl rfl ?_
    refine S_ex rfl rfl ?_
    refine S_ex rfl rfl ?_
    refine S_as rfl ?_
    refine S_as rfl ?_
    refine S_as rfl ?_
    refine S_nil (hK17 _ _ (V_keep [0, 1, 6, 7, 8, 9, 10, 11, 12, 13] (by simp only [proj, lk, reduceIte, Nat.reduceEqDiff]; rfl) ?_)); clear hK17
    refine V_seq (fun K18 hK18 => ?_)
    refine V_sr T.mix (by kernel_rfl) (fun K19 hK19 => ?_)
    refine S_mv rfl ?_
    refine S_notb rfl ?_
    refine S_nil (hK19 _ _ (V_keep [0, 1, 6, 7, 8, 9, 10, 12, 13, 49] (by simp only [proj, lk, reduceIte, Nat.reduceEqDiff]; rfl) ?_)); clear hK19
    refine V_condb rfl (fun c154 => ?_) (fun c154 => ?_)
    · skip
      cases c154
    · skip
      refine V_skipk [0, 1, 6, 7, 8, 9, 10, 12, 13] (by simp only [proj, lk, reduceIte, Nat.reduceEqDiff]; rfl) ?_
      refine hK18 _ _ ?_; clear hK18
      refine V_sr T.mix (by kernel_rfl) (fun K20 hK20 => ?_)
      refine S_mv rfl ?_
      refine S_call T.hb12 rfl ?_
      refine FC.mono (shotof_spec h9 M a2 c2 s2 w.m) ?_
      rintro v h10 ⟨rfl, hEh10⟩
      have hyh10 := hEh10.1
      replace hE := hE.trans (hEh10.mono fun _ f => f.elim)
      replace w := w.ext hEh10 (fun _ f => f.elim)
      replace hO := hO.ext hEh10 (fun f => f)
      replace hA := hA.ext hEh10 (fun f => f)
      refine S_allocA T.z38 ?_
      generalize hh : Array.push h10 _ = h11
      have hC : B h11 h10.size #[.int .i64 0, .int .i64 0, .string ⟨#[]⟩] 38 := by rw [← hh]; exact B.new _ _ _
      have hEh11 : Ext (fun _ => False) h10 h11 := by rw [← hh]; exact Ext.push _ _ _
      clear hh
      have hk11 := hC.lt
      have nc := w.nin (Nat.le_refl _)
      have hyh11 := hEh11.1
      replace hE := hE.trans (hEh11.mono fun _ f => f.elim)
      replace w := w.ext hEh11 (fun _ f => f.elim)
      replace hO := hO.ext hEh11 (fun f => f)
      replace hA := hA.ext hEh11 (fun f => f)
      clear hok
      have hok : ∀ j, j < 3 → okPut h11 ⟨h10.size, j, none⟩ = true := fun j hj => hC.ok (by simpa using hj)
      refine S_stl T.sz38 rfl rfl rfl rfl (fun j hj => by simp (disch := omega) only [hok]) ?_
      generalize hh : putsH _ _ _ _ = h12
      replace hC : B h12 h10.size #[.int .i64 (s2.p : Int), .int .i64 (s2.n : Int), .string (txt s2.N s2.n)] 38 := by rw [← hh]; exact puts_all hC (cs' := #[.int .i64 (s2.p : Int), .int .i64 (s2.n : Int), .string (txt s2.N s2.n)]) rfl
      have hEh12 : Ext (fun x => x = h10.size) h11 h12 := by rw [← hh]; exact Ext.puts (S := fun x => x = h10.size) rfl _ _ _
      clear hh
      have hzh12 := w.hb
      have hyh12 := hEh12.1
      replace hE := hE.trans (hEh12.mono fun c (e : c = _) => by omega)
      replace w := w.ext hEh12 (fun c e => by subst e; exact nc)
      replace hO := hO.ext hEh12 (fun e => by omega)
      replace hA := hA.ext hEh12 (fun e => by omega)
      refine S_nil (hK20 _ _ (V_keep [0, 1, 6, 7, 8, 9, 10, 12, 13, 14] (by simp only [proj, lk, reduceIte, Nat.reduceEqDiff]; rfl) ?_)); clear hK20
      refine V_seq (fun K21 hK21 => ?_)
      refine V_sr T.mix (by kernel_rfl) (fun K22 hK22 => ?_)
      refine S_ldn T.ag38 rfl (hA.all rfl) ?_
      refine S_ldn T.ag38 rfl (hC.all rfl) ?_
      refine S_ldn T.ag36 rfl (hO.all rfl) ?_
      refine S_mv rfl ?_
      refine S_mv rfl ?_
      refine S_call T.hb14 rfl ?_
      refine FC.mono (does_spec h12 sk s2 okk k oa ob oc os ot e2 v2 hs2.symm hd2.symm hv2.symm) ?_
      rintro v h13 ⟨rfl, hEh13⟩
      have hyh13 := hEh13.1
      replace hE := hE.trans (hEh13.mono fun _ f => f.elim)
      replace w := w.ext hEh13 (fun _ f => f.elim)
      replace hC := hC.ext hEh13 (fun f => f)
      refine S_notb rfl ?_
      refine S_nil (hK22 _ _ (V_keep [0, 1, 6, 7, 8, 14, 60] (by simp only [proj, lk, reduceIte, Nat.reduceEqDiff]; rfl) ?_)); clear hK22
      refine V_condb rfl (fun c158 => ?_) (fun c158 => ?_)
      · skip
        cases c158
      · skip
        refine V_skipk [0, 1, 6, 7, 8, 14] (by simp only [proj, lk, reduceIte, Nat.reduceEqDiff]; rfl) ?_
        refine hK21 _ _ ?_; clear hK21
        refine V_seq (fun K23 hK23 => ?_)
        refine V_sr T.mix (by kernel_rfl) (fun K24 hK24 => ?_)
        refine S_mv rfl ?_
        refine S_ldn T.ag38 rfl (hC.all rfl) ?_
        refine S_call T.hb15 rfl ?_
        refine FC.mono (reads_spec h13 M a2 c2 s2 w.m) ?_
        rintro v h14 ⟨rfl, hEh14⟩
        have hyh14 := hEh14.1
        replace hE := hE.trans (hEh14.mono fun _ f => f.elim)
        replace w := w.ext hEh14 (fun _ f => f.elim)
        refine S_notb rfl ?_
        refine S_nil (hK24 _ _ (V_keep [0, 1, 6, 7, 8, 66] (by simp only [proj, lk, reduceIte, Nat.reduceEqDiff]; rfl) ?_)); clear hK24
        refine V_condb rfl (fun c161 => ?_) (fun c161 => ?_)
        · skip
          cases c161
        · skip
          refine V_skipk [0, 1, 6, 7, 8] (by simp only [proj, lk, reduceIte, Nat.reduceEqDiff]; rfl) ?_
          refine hK23 _ _ ?_; clear hK23
          refine V_sr T.mix (by kernel_rfl) (fun K25 hK25 => ?_)
          refine S_mv rfl ?_
          refine S_not rfl ?_
          refine S_nil (hK25 _ _ (V_keep [0, 1, 6, 7, 8, 70] (by simp only [proj, lk, reduceIte, Nat.reduceEqDiff]; rfl) ?_)); clear hK25
          refine V_condp rfl (fun c164 => ?_) (fun c164 => ?_)
          · skip
            refine V_sr T.mix (by kernel_rfl) (fun K26 hK26 => ?_)
            refine S_mv rfl ?_
            refine S_mv rfl ?_
            refine S_call T.hb11 rfl ?_
            refine FC.mono (alike_spec h.size h14 X y M a2 c2 s2 w) ?_
            rintro v h15 ⟨rfl, hEh15⟩
            have hyh15 := hEh15.1
            replace hE := hE.trans (hEh15.mono fun _ f => f.elim)
            replace w := w.ext hEh15 (fun _ f => f.elim)
            refine S_notb rfl ?_
            refine S_nil (hK26 _ _ (V_keep [0, 1, 6, 7, 8, 74] (by simp only [proj, lk, reduceIte, Nat.reduceEqDiff]; rfl) ?_)); clear hK26
            refine V_condb rfl (fun c165 => ?_) (fun c165 => ?_)
            · skip
              cases c165
            · skip
              refine V_skipk [0, 1, 6, 7, 8] (by simp only [proj, lk, reduceIte, Nat.reduceEqDiff]; rfl) ?_
              refine hK14 _ _ ?_; clear hK14
              refine V_reg T.mix (by kernel_rfl) ?_
              refine S_mv rfl ?_
              first | refine S_add rfl rfl (by omega) (by omega) ?_ | refine S_bin rfl rfl rfl ?_
              refine S_as rfl ?_
              refine S_nilk [0, 1, 6, 7, 8] (by simp only [proj, lk, reduceIte, Nat.reduceEqDiff]; rfl) ?_
              exact hK10 _ _ ⟨_, by omega, i + 1, _, a2, c2, s2, by omega, by omega, w, hE, rfl, rfl, rfl⟩
          · skip
            refine V_skipk [0, 1, 6, 7, 8] (by simp only [proj, lk, reduceIte, Nat.reduceEqDiff]; rfl) ?_
            refine hK14 _ _ ?_; clear hK14
            refine V_reg T.mix (by kernel_rfl) ?_
            refine S_mv rfl ?_
            first | refine S_add rfl rfl (by omega) (by omega) ?_ | refine S_bin rfl rfl rfl ?_
            refine S_as rfl ?_
            refine S_nilk [0, 1, 6, 7, 8] (by simp only [proj, lk, reduceIte, Nat.reduceEqDiff]; rfl) ?_
            exact hK10 _ _ ⟨_, by omega, i + 1, _, a2, c2, s2, by omega, by omega, w, hE, rfl, rfl, rfl⟩
  · replace c150 : ¬ _ := fun hp => Bool.false_ne_true (c150.symm.trans (hb150.2 hp))
    refine V_exitk [0] rfl (by simp only [proj, lk, reduceIte, Nat.reduceEqDiff]; rfl) ?_
    refine hK8 _ _ ?_; clear hK8
    refine V_seq (fun K27 hK27 => ?_)
    refine V_sr T.mix (by kernel_rfl) (fun K28 hK28 => ?_)
    refine S_mv rfl ?_
    refine S_lenl T.el22 rfl ?_
    refine S_bin rfl rfl rfl ?_
    refine S_nil (hK28 _ _ (V_keep [0, 79] (by simp only [proj, lk, reduceIte, Nat.reduceEqDiff]; rfl) ?_)); clear hK28
    refine V_condp rfl (fun c170 => ?_) (fun c170 => ?_)
    · skip
      refine V_sr T.mix (by kernel_rfl) (fun K29 hK29 => ?_)
      refine S_mv rfl ?_
      refine S_lenl T.el22 rfl ?_
      refine S_as rfl ?_
      refine S_as rfl ?_
      refine S_nil (hK29 _ _ (V_keep [4, 5] (by simp only [proj, lk, reduceIte, Nat.reduceEqDiff]; rfl) ?_)); clear hK29
      refine V_ret ?_
      refine hR _ _ (ret2 rfl rfl rfl ?_)
      exact ⟨⟨_, rfl⟩, hE⟩
    · skip
      refine V_skipk [] (by simp only [proj, lk, reduceIte, Nat.reduceEqDiff]; rfl) ?_
      refine hK27 _ _ ?_; clear hK27
      refine V_sr T.mix (by kernel_rfl) (fun K30 hK30 => ?_)
      refine S_as rfl ?_
      refine S_as rfl ?_
      refine S_nil (hK30 _ _ (V_keep [4, 5] (by simp only [proj, lk, reduceIte, Nat.reduceEqDiff]; rfl) ?_)); clear hK30
      refine V_ret ?_
      refine hR _ _ (ret2 rfl rfl rfl ?_)
      exact ⟨⟨_, rfl⟩, hE⟩
set_option maxHeartbeats 400000 in
theorem rut_spec (h : Heap) (sa : Option Addr) (n cap : Nat) (hs : Scr h.size h sa n) (hn : n ≤ 9223372036854775807) :
    FC Try.prog 5 (#[.slice sa n cap] : Array Value) h fun v h' => v = .int .i64 (-1) ∧ Ext (fun b => h.size ≤ b) h h' := by
  refine FC_of [(0, .slice sa n cap)] Try.func5 rfl Try.ntmps5 (by simp) rfl (fun R hR => ?_)
  refine V_sr T.mix (by kernel_rfl) (fun K1 hK1 => ?_)
  refine S_as rfl ?_
  refine S_nil (hK1 _ _ (V_keep [0] (by simp only [proj, lk, reduceIte, Nat.reduceEqDiff]; rfl) ?_)); clear hK1
  refine V_sr T.mix (by kernel_rfl) (fun K2 hK2 => ?_)
  refine S_mv rfl ?_
  refine S_call T.hb7 rfl ?_
  refine FC.mono (walk_spec h sa n cap false hs hn) ?_
  rintro v h2 ⟨⟨j, rfl⟩, hE⟩
  refine S_mv rfl ?_
  refine S_ex rfl rfl ?_
  refine S_ex rfl rfl ?_
  refine S_as rfl ?_
  refine S_as rfl ?_
  refine S_nil (hK2 _ _ (V_keep [3] (by simp only [proj, lk, reduceIte, Nat.reduceEqDiff]; rfl) ?_)); clear hK2
  refine V_sr T.mix (by kernel_rfl) (fun K3 hK3 => ?_)
  refine S_mv rfl ?_
  refine S_as rfl ?_
  refine S_nil (hK3 _ _ (V_keep [2] (by simp only [proj, lk, reduceIte, Nat.reduceEqDiff]; rfl) ?_)); clear hK3
  refine V_ret ?_
  refine hR _ _ (ret1 rfl rfl ?_)
  exact ⟨rfl, hE⟩
set_option maxHeartbeats 400000 in
theorem rqut_spec (h : Heap) (sa : Option Addr) (n cap : Nat) (hs : Scr h.size h sa n) (hn : n ≤ 9223372036854775807) :
    FC Try.prog 6 (#[.slice sa n cap] : Array Value) h fun v h' => v = .int .i64 (-1) ∧ Ext (fun b => h.size ≤ b) h h' := by
  refine FC_of [(0, .slice sa n cap)] Try.func6 rfl Try.ntmps6 (by simp) rfl (fun R hR => ?_)
  refine V_sr T.mix (by kernel_rfl) (fun K1 hK1 => ?_)
  refine S_as rfl ?_
  refine S_nil (hK1 _ _ (V_keep [0] (by simp only [proj, lk, reduceIte, Nat.reduceEqDiff]; rfl) ?_)); clear hK1
  refine V_sr T.mix (by kernel_rfl) (fun K2 hK2 => ?_)
  refine S_mv rfl ?_
  refine S_call T.hb7 rfl ?_
  refine FC.mono (walk_spec h sa n cap true hs hn) ?_
  rintro v h2 ⟨⟨j, rfl⟩, hE⟩
  refine S_mv rfl ?_
  refine S_ex rfl rfl ?_
  refine S_ex rfl rfl ?_
  refine S_as rfl ?_
  refine S_as rfl ?_
  refine S_nil (hK2 _ _ (V_keep [3] (by simp only [proj, lk, reduceIte, Nat.reduceEqDiff]; rfl) ?_)); clear hK2
  refine V_sr T.mix (by kernel_rfl) (fun K3 hK3 => ?_)
  refine S_mv rfl ?_
  refine S_as rfl ?_
  refine S_nil (hK3 _ _ (V_keep [2] (by simp only [proj, lk, reduceIte, Nat.reduceEqDiff]; rfl) ?_)); clear hK3
  refine V_ret ?_
  refine hR _ _ (ret1 rfl rfl ?_)
  exact ⟨rfl, hE⟩
set_option maxHeartbeats 400000 in
theorem ref_spec (h : Heap) (sa : Option Addr) (n cap : Nat) (hs : Scr h.size h sa n) (hn : n ≤ 9223372036854775807) :
    FC Try.prog 3 (#[.slice sa n cap] : Array Value) h fun v h' => v = .bool true ∧ Ext (fun b => h.size ≤ b) h h' := by
  refine FC_of [(0, .slice sa n cap)] Try.func3 rfl Try.ntmps3 (by simp) rfl (fun R hR => ?_)
  refine V_sr T.mix (by kernel_rfl) (fun K1 hK1 => ?_)
  refine S_as rfl ?_
  refine S_nil (hK1 _ _ (V_keep [0] (by simp only [proj, lk, reduceIte, Nat.reduceEqDiff]; rfl) ?_)); clear hK1
  refine V_sr T.mix (by kernel_rfl) (fun K2 hK2 => ?_)
  refine S_mv rfl ?_
  refine S_call T.hb5 rfl ?_
  refine FC.mono (rut_spec h sa n cap hs hn) ?_
  rintro v h2 ⟨rfl, hE⟩
  refine S_as rfl ?_
  refine S_nil (hK2 _ _ (V_keep [3] (by simp only [proj, lk, reduceIte, Nat.reduceEqDiff]; rfl) ?_)); clear hK2
  refine V_sr T.mix (by kernel_rfl) (fun K3 hK3 => ?_)
  refine S_mv rfl ?_
  refine S_bin rfl rfl rfl ?_
  refine S_as rfl ?_
  refine S_nil (hK3 _ _ (V_keep [2] (by simp only [proj, lk, reduceIte, Nat.reduceEqDiff]; rfl) ?_)); clear hK3
  refine V_ret ?_
  refine hR _ _ (ret1 rfl rfl ?_)
  exact ⟨rfl, hE⟩
set_option maxHeartbeats 400000 in
theorem refq_spec (h : Heap) (sa : Option Addr) (n cap : Nat) (hs : Scr h.size h sa n) (hn : n ≤ 9223372036854775807) :
    FC Try.prog 4 (#[.slice sa n cap] : Array Value) h fun v h' => v = .bool true ∧ Ext (fun b => h.size ≤ b) h h' := by
  refine FC_of [(0, .slice sa n cap)] Try.func4 rfl Try.ntmps4 (by simp) rfl (fun R hR => ?_)
  refine V_sr T.mix (by kernel_rfl) (fun K1 hK1 => ?_)
  refine S_as rfl ?_
  refine S_nil (hK1 _ _ (V_keep [0] (by simp only [proj, lk, reduceIte, Nat.reduceEqDiff]; rfl) ?_)); clear hK1
  refine V_sr T.mix (by kernel_rfl) (fun K2 hK2 => ?_)
  refine S_mv rfl ?_
  refine S_call T.hb6 rfl ?_
  refine FC.mono (rqut_spec h sa n cap hs hn) ?_
  rintro v h2 ⟨rfl, hE⟩
  refine S_as rfl ?_
  refine S_nil (hK2 _ _ (V_keep [3] (by simp only [proj, lk, reduceIte, Nat.reduceEqDiff]; rfl) ?_)); clear hK2
  refine V_sr T.mix (by kernel_rfl) (fun K3 hK3 => ?_)
  refine S_mv rfl ?_
  refine S_bin rfl rfl rfl ?_
  refine S_as rfl ?_
  refine S_nil (hK3 _ _ (V_keep [2] (by simp only [proj, lk, reduceIte, Nat.reduceEqDiff]; rfl) ?_)); clear hK3
  refine V_ret ?_
  refine hR _ _ (ret1 rfl rfl ?_)
  exact ⟨rfl, hE⟩
end Go.Proofs.Qxb6500405a
