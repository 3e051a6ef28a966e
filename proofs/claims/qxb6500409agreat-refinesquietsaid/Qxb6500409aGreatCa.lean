import Derived.Test.Qxb6500409aGreatTb
import Derived.Test.Qxb6500409aGreatLq
set_option linter.unusedVariables false
set_option linter.unusedSimpArgs false
namespace Go.Proofs.Qxb6500409aGreat.LzW
open Go.Eng Go.Lz


structure MA where
  m : Nat
  bh : Nat
  bp : Nat
  bt : Nat
/-- the matcher at A, in state st -/
structure Mat (h : Heap) (A : MA) (st : MS) : Prop where
  s : B h A.m #[.slice (some ⟨A.bh, 0, none⟩) 64 64, .slice (some ⟨A.bp, 0, none⟩) 16 16, .slice (some ⟨A.bt, 0, none⟩) 256 256, .int .i64 st.n, .int .i64 st.pr] 0
  hd : B h A.bh (arr 64 fun i => .int .i64 (st.hd i)) 3
  pv : B h A.bp (arr 16 fun i => .int .i64 (st.pv i)) 3
  tk : B h A.bt (arr 768 fun i => .int .i64 (st.tk i)) 106
  n1 : A.m ≠ A.bh
  n2 : A.m ≠ A.bp
  n3 : A.m ≠ A.bt
  n4 : A.bh ≠ A.bp
  n5 : A.bh ≠ A.bt
  n6 : A.bp ≠ A.bt
/-- the matcher's own blocks -/
def ES (A : MA) : Nat → Prop := fun b => b = A.m ∨ b = A.bh ∨ b = A.bp ∨ b = A.bt

section mat
variable {h : Heap} {A : MA} {st : MS}
theorem Mat.c0 (hM : Mat h A st) : cellH h ⟨A.m, 0, none⟩ = some (.slice (some ⟨A.bh, 0, none⟩) 64 64) := hM.s.cell 0
theorem Mat.c1 (hM : Mat h A st) : cellH h ⟨A.m, 1, none⟩ = some (.slice (some ⟨A.bp, 0, none⟩) 16 16) := hM.s.cell 1
theorem Mat.c2 (hM : Mat h A st) : cellH h ⟨A.m, 2, none⟩ = some (.slice (some ⟨A.bt, 0, none⟩) 256 256) := hM.s.cell 2
theorem Mat.c3 (hM : Mat h A st) : cellH h ⟨A.m, 3, none⟩ = some (.int .i64 st.n) := hM.s.cell 3
theorem Mat.c4 (hM : Mat h A st) : cellH h ⟨A.m, 4, none⟩ = some (.int .i64 st.pr) := hM.s.cell 4
theorem Mat.ch (hM : Mat h A st) {i : Nat} (hi : i < 64) : cellH h ⟨A.bh, i, none⟩ = some (.int .i64 (st.hd i)) := hM.hd.cellA hi
theorem Mat.cp (hM : Mat h A st) {i : Nat} (hi : i < 16) : cellH h ⟨A.bp, i, none⟩ = some (.int .i64 (st.pv i)) := hM.pv.cellA hi
theorem Mat.ct (hM : Mat h A st) {i : Nat} (hi : i < 768) : cellH h ⟨A.bt, i, none⟩ = some (.int .i64 (st.tk i)) := hM.tk.cellA hi
theorem Mat.o3 (hM : Mat h A st) : okPut h ⟨A.m, 3, none⟩ = true := hM.s.ok (by simp)
theorem Mat.o4 (hM : Mat h A st) : okPut h ⟨A.m, 4, none⟩ = true := hM.s.ok (by simp)
theorem Mat.oh (hM : Mat h A st) {i : Nat} (hi : i < 64) : okPut h ⟨A.bh, i, none⟩ = true := hM.hd.okA hi
theorem Mat.op (hM : Mat h A st) {i : Nat} (hi : i < 16) : okPut h ⟨A.bp, i, none⟩ = true := hM.pv.okA hi
theorem Mat.ot (hM : Mat h A st) {i : Nat} (hi : i < 768) : okPut h ⟨A.bt, i, none⟩ = true := hM.tk.okA hi
theorem Mat.put_n (hM : Mat h A st) {v : Int} {k : Nat} (hk : v = k) : Mat (putH h ⟨A.m, 3, none⟩ (.int .i64 v)) A { st with n := k } := by
  subst hk
  exact ⟨hM.s.put 3 _, hM.hd.put_ne (Ne.symm hM.n1), hM.pv.put_ne (Ne.symm hM.n2), hM.tk.put_ne (Ne.symm hM.n3), hM.n1, hM.n2, hM.n3, hM.n4, hM.n5, hM.n6⟩
theorem Mat.put_pr (hM : Mat h A st) {v : Int} {k : Nat} (hk : v = k) : Mat (putH h ⟨A.m, 4, none⟩ (.int .i64 v)) A { st with pr := k } := by
  subst hk
  exact ⟨hM.s.put 4 _, hM.hd.put_ne (Ne.symm hM.n1), hM.pv.put_ne (Ne.symm hM.n2), hM.tk.put_ne (Ne.symm hM.n3), hM.n1, hM.n2, hM.n3, hM.n4, hM.n5, hM.n6⟩
theorem upd_val (f : Nat → Int) (i : Nat) (v : Int) : (fun j => if j = i then Value.int .i64 v else .int .i64 (f j)) = fun j => .int .i64 (upd f i v j) := by
  funext j; simp only [upd]; split <;> rfl
theorem Mat.put_hd (hM : Mat h A st) {i : Nat} {v : Int} : Mat (putH h ⟨A.bh, i, none⟩ (.int .i64 v)) A { st with hd := upd st.hd i v } :=
  ⟨hM.s.put_ne hM.n1, by have := hM.hd.putA i (.int .i64 v); rwa [upd_val] at this, hM.pv.put_ne (Ne.symm hM.n4), hM.tk.put_ne (Ne.symm hM.n5), hM.n1, hM.n2, hM.n3, hM.n4, hM.n5, hM.n6⟩
theorem Mat.put_pv (hM : Mat h A st) {i : Nat} {v : Int} : Mat (putH h ⟨A.bp, i, none⟩ (.int .i64 v)) A { st with pv := upd st.pv i v } :=
  ⟨hM.s.put_ne hM.n2, hM.hd.put_ne hM.n4, by have := hM.pv.putA i (.int .i64 v); rwa [upd_val] at this, hM.tk.put_ne (Ne.symm hM.n6), hM.n1, hM.n2, hM.n3, hM.n4, hM.n5, hM.n6⟩
theorem Mat.put_tk (hM : Mat h A st) {i : Nat} {v : Int} : Mat (putH h ⟨A.bt, i, none⟩ (.int .i64 v)) A { st with tk := upd st.tk i v } :=
  ⟨hM.s.put_ne hM.n3, hM.hd.put_ne hM.n5, hM.pv.put_ne hM.n6, by have := hM.tk.putA i (.int .i64 v); rwa [upd_val] at this, hM.n1, hM.n2, hM.n3, hM.n4, hM.n5, hM.n6⟩
theorem Mat.put_tok (hM : Mat h A st) {k : Nat} {a b c : Int} : Mat (putsH h A.bt (k * 3) [.int .i64 a, .int .i64 b, .int .i64 c]) A { st with tk := updT st.tk k a b c } :=
  ((hM.put_tk (i := k * 3) (v := a)).put_tk (i := k * 3 + 1) (v := b)).put_tk (i := k * 3 + 2) (v := c)
theorem Mat.ext {h' : Heap} {S : Nat → Prop} (hM : Mat h A st) (he : Ext S h h') (hS : ∀ b, ES A b → ¬ S b) : Mat h' A st :=
  ⟨hM.s.ext he (hS _ (.inl rfl)), hM.hd.ext he (hS _ (.inr (.inl rfl))), hM.pv.ext he (hS _ (.inr (.inr (.inl rfl)))), hM.tk.ext he (hS _ (.inr (.inr (.inr rfl)))), hM.n1, hM.n2, hM.n3, hM.n4, hM.n5, hM.n6⟩
theorem Mat.push (hM : Mat h A st) (o : Obj) : Mat (h.push o) A st := hM.ext (Ext.push (fun _ => False) h o) (fun _ _ h => h)
theorem Mat.lt (hM : Mat h A st) {b : Nat} (hb : ES A b) : b < h.size := by
  rcases hb with e | e | e | e <;> subst e
  · exact hM.s.lt
  · exact hM.hd.lt
  · exact hM.pv.lt
  · exact hM.tk.lt
end mat
/-- a list of tokens, laid in a block of its own -/
def TokB (h : Heap) (b : Nat) (ts : List Tok) : Prop := B h b (arr (ts.length * 3) fun j => .int .i64 (fl ts j)) 106
def lid0 (s : ByteArray) (level : Int) : Nat := if level = 0 then 0 else lidF s level (toks s level) 0
end Go.Proofs.Qxb6500409aGreat.LzW
