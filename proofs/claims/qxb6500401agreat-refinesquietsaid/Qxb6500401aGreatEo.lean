import Derived.Test.Qxb6500401aGreatEn
import Derived.Laws.IdiomStrings
set_option linter.unusedVariables false
set_option linter.unusedSimpArgs false
namespace Go.Eng
section bytes
variable {P : Program} {ops : Array Oper}
theorem regI_sound2 {K : Env → Heap → Prop} {Q : Exit → Act → World → Prop} {n : Nat} {w0 : World} {l2 : List Nat} (hd : ∀ o ∈ ops.toList, ∀ d, o.dst = some d → d < n)
    (hK : ∀ env h a d, Sees n env a → K env h → wpOps P ops Q l2 a (wd w0 h d)) : ∀ (l : List Nat) (env : Env) (h : Heap) (a : Act) (d : Nat), Sees n env a → regI P ops K l env h → wpOps P ops Q (l ++ l2) a (wd w0 h d)
  | [], env, h, a, d, hs, hr => hK env h a d hs hr
  | i :: r, env, h, a, d, hs, ⟨o, ho, hr⟩ => by
    have hdo := hd o (by rw [Array.mem_toList_iff]; exact Array.mem_of_getElem? ho)
    rw [List.cons_append]
    simp only [wpOps, ho]
    rcases hr with ⟨h1, h2⟩ | ⟨h1, h2⟩
    · rw [want_sound hs h1]
      simp only [if_true]
      refine .inl (opW_sound hs w0 h d o _ h2 _ Q fun v h' d' hk => ?_)
      exact regI_sound2 hd hK r _ h' _ d' (hs.put o.dst v hdo) hk
    · rw [want_sound hs h1]
      simp only [Bool.false_eq_true, if_false]
      exact regI_sound2 hd hK r _ h _ d (hs.put o.dst undef hdo) h2
theorem regL_pre {K : Env → Heap → Prop} (l : List Oper) : ∀ k, (∀ j, j < l.length → l[j]? = ops[k + j]?) → ∀ env h, regL P ops K l env h → regI P ops K (List.range' k l.length) env h := by
  induction l with
  | nil => intro k _ env h hr; exact hr
  | cons o l ih =>
    intro k hk env h hr
    have h0 : ops[k]? = some o := by simpa using (hk 0 (by simp)).symm
    have ih' := ih (k + 1) (fun j hj => by have := hk (j + 1) (by simp; omega); simpa [Nat.add_assoc, Nat.add_comm 1 j] using this)
    rw [List.length_cons, List.range'_succ]
    exact ⟨o, h0, stepW_mono ih' hr⟩
/-- what the text lays -/
def Hob (s : ByteArray) (cap : Nat) (ob : Obj) : Prop := ∃ e, ob = .cells (bytesRow s cap) e ((bytesRow s cap).size, (bytesRow s cap).size + 1)
/-- a text laid as bytes: a new block, whatever its room -/
theorem W_regionB {n : Nat} {Q : Exit → Env → Heap → Prop} {env : Env} {h : Heap} {id : Nat} {os1 os2 : List Oper} {dd : Nat} {sT dT e ty : TypeId} {x : Operand} {pos : String} {aft : Array Edge} (hd : ∀ o ∈ ops.toList, ∀ d, o.dst = some d → d < n)
    (hsp : ops.toList = os1 ++ ⟨some dd, .convert sT dT x, ty, pos, aft, none⟩ :: os2) (hsT : P.underlying sT = some .string) (hdT : P.underlying dT = some (.slice e)) (he : P.underlying e = some (.int .u8))
    (hr : regL P ops (fun env h => ∃ s, ev env x = some (.string s) ∧ ∀ cap ob, Hob s cap ob → regL P ops (Q .normal) os2 (bnd (some dd) (.slice (some ⟨h.size, 0, none⟩) s.size cap) env) (h.push ob)) os1 env h) : W P n (.region id ops false) Q env h := by
  intro w0 d a hs
  have hlen : ops.size = os1.length + (os2.length + 1) := by rw [← Array.length_toList, hsp]; simp
  have hr1 := regL_pre (P := P) (ops := ops) os1 0 (fun j hj => ?_) env h (by
    refine regL_mono (K' := fun env h => ∃ s, ev env x = some (.string s) ∧ ∀ cap ob, Hob s cap ob → regI P ops (Q .normal) (List.range' (os1.length + 1) os2.length) (bnd (some dd) (.slice (some ⟨h.size, 0, none⟩) s.size cap) env) (h.push ob)) (fun env h hk => ?_) os1 env h hr
    obtain ⟨s, h1, h2⟩ := hk
    refine ⟨s, h1, fun cap ob hob => ?_⟩
    have hj2 : ∀ j, os2[j]? = ops[os1.length + 1 + j]? := fun j => by
      have : ops[os1.length + 1 + j]? = ops.toList[os1.length + 1 + j]? := by simp
      rw [this, hsp, List.getElem?_append_right (by omega), show os1.length + 1 + j - os1.length = j + 1 by omega, List.getElem?_cons_succ]
    exact regL_pre (P := P) (ops := ops) os2 (os1.length + 1) (fun j _ => hj2 j) _ _ (h2 cap ob hob))
  · refine wp_region ?_
    have hrg : List.range ops.size = List.range' 0 os1.length ++ (os1.length :: List.range' (os1.length + 1) os2.length) := by
      rw [List.range_eq_range', hlen, ← List.range'_append_1, Nat.zero_add, List.range'_succ]
    rw [hrg]
    refine regI_sound2 (Q := lift w0 n Q) (w0 := w0) hd (fun env h a d hs hk => ?_) _ env h a d hs hr1
    obtain ⟨s, h1, h2⟩ := hk
    have hoc : ops[os1.length]? = some ⟨some dd, .convert sT dT x, ty, pos, aft, none⟩ := by
      have : ops[os1.length]? = ops.toList[os1.length]? := by simp
      rw [this, hsp, List.getElem?_append_right (Nat.le_refl _), Nat.sub_self]; rfl
    simp only [wpOps, hoc]
    rw [want_sound (ops := ops) hs (show wantE ops env ⟨some dd, .convert sT dT x, ty, pos, aft, none⟩ = some true from rfl)]
    simp only [if_true]
    refine .inl ?_
    unfold Oper.wp
    have hex : (execOp a.eval ⟨some dd, .convert sT dT x, ty, pos, aft, none⟩).run P (wd w0 h d) = (do pure (.value (← convert sT dT (.string s))) : Sem Next).run P (wd w0 h d) := by
      simp only [execOp, hs.eval h1]
    rw [hex, Sem.run_bind, run_bytes_of_string _ _ _ e s hsT hdT he, Result.andThen_ok, Sem.run_pure]
    have hds : dd < n := hd ⟨some dd, .convert sT dT x, ty, pos, aft, none⟩ (by rw [hsp]; simp) dd rfl
    exact regI_sound (Q := lift w0 n Q) (w0 := w0) hd (fun env h a d s hk => ⟨env, h, d, s, rfl, hk⟩) _ _ _ _ (d + 1) (hs.put (some dd) _ (fun q hq => by cases hq; exact hds)) (h2 _ _ ⟨e, rfl⟩)
  · have : ops[0 + j]? = ops.toList[j]? := by simp
    rw [this, hsp, List.getElem?_append_left hj]
end bytes
section frames
variable {P : Program} {ops : List Oper} {l : Fr} {h : Heap}
/-- behind the text's bytes -/
def SB (P : Program) (ops : List Oper) (K : Ko) (x : Operand) (dd : Nat) (os2 : List Oper) : Ko := fun l h => ∃ s, ev (E l) x = some (.string s) ∧ ∀ cap ob, Hob s cap ob → S P ops K os2 ((dd, .slice (some ⟨h.size, 0, none⟩) s.size cap) :: l) (h.push ob)
theorem SB_at {K : Ko} {x : Operand} {dd : Nat} {os2 : List Oper} {s : ByteArray} (hx : ev (E l) x = some (.string s)) (hk : ∀ cap ob, S P ops K os2 ((dd, .slice (some ⟨h.size, 0, none⟩) s.size cap) :: l) (h.push ob)) : SB P ops K x dd os2 l h := ⟨s, hx, fun cap ob _ => hk cap ob⟩
theorem SB_ax {K : Ko} {x : Operand} {dd : Nat} {os2 : List Oper} {s : ByteArray} (hx : ev (E l) x = some (.string s)) (hk : ∀ cap ob, Hob s cap ob → S P ops K os2 ((dd, .slice (some ⟨h.size, 0, none⟩) s.size cap) :: l) (h.push ob)) : SB P ops K x dd os2 l h := ⟨s, hx, hk⟩
theorem V_regB {n : Nat} {N R : Ko} {X : List (Nat × Ko)} {id : Nat} (os1 os2 : List Oper) {dd : Nat} {sT dT e ty : TypeId} {x : Operand} {pos : String} {aft : Array Edge} (ok : (ops.all fun o => match o.dst with | some d => decide (d < n) | none => true) = true)
    (hsp : ops = os1 ++ ⟨some dd, .convert sT dT x, ty, pos, aft, none⟩ :: os2) (hsT : P.underlying sT = some .string) (hdT : P.underlying dT = some (.slice e)) (he : P.underlying e = some (.int .u8))
    (hr : S P ops (SB P ops N x dd os2) os1 l h) : V P n (.region id ops.toArray false) N R X l h := by
  refine W_regionB (os1 := os1) (os2 := os2) (fun o ho d hd => ?_) (by simpa using hsp) hsT hdT he ?_
  · have := List.all_eq_true.1 ok o (by simpa using ho)
    simpa [hd] using this
  · refine regL_mono (fun env h1 hk => ?_) _ _ _ hr
    obtain ⟨l1, hs, s, h2, h3⟩ := hk
    refine ⟨s, ev_sub (fun t v hv => hs t v hv) h2, fun cap ob hob => ?_⟩
    refine regL_sub ?_ _ _ _ _ ?_ (h3 cap ob hob)
    · rintro e e' h ht ⟨l2, h2, h3⟩
      exact ⟨l2, fun t v hv => ht t v (h2 t v hv), h3⟩
    · intro t v hv
      simp only [E, lk] at hv
      simp only [bnd]
      split at hv
      · rename_i e; simp [e]; simpa using hv
      · rename_i e; simp [e]; exact hs t v hv
theorem V_srB {n : Nat} {N R : Ko} {X : List (Nat × Ko)} {id : Nat} {y : Code} (os1 os2 : List Oper) {dd : Nat} {sT dT e ty : TypeId} {x : Operand} {pos : String} {aft : Array Edge} (ok : (ops.all fun o => match o.dst with | some d => decide (d < n) | none => true) = true)
    (hsp : ops = os1 ++ ⟨some dd, .convert sT dT x, ty, pos, aft, none⟩ :: os2) (hsT : P.underlying sT = some .string) (hdT : P.underlying dT = some (.slice e)) (he : P.underlying e = some (.int .u8))
    (hr : ∀ K : Ko, (∀ l h, V P n y N R X l h → K l h) → S P ops (SB P ops K x dd os2) os1 l h) : V P n (.seq (.region id ops.toArray false) y) N R X l h :=
  V_seq fun K hK => V_regB os1 os2 ok hsp hsT hdT he (hr K hK)
theorem take_drop_at {c : Nat} {o : Oper} (h : ops[c]? = some o) : ops = ops.take c ++ o :: ops.drop (c + 1) := by
  have hc : c < ops.length := by
    rcases Nat.lt_or_ge c ops.length with q | q
    · exact q
    · rw [List.getElem?_eq_none q] at h; cases h
  rw [List.getElem?_eq_getElem hc] at h
  injection h with h
  rw [← h, ← List.drop_eq_getElem_cons hc, List.take_append_drop]
theorem V_regBc {n : Nat} {N R : Ko} {X : List (Nat × Ko)} {id : Nat} (c : Nat) {dd : Nat} {sT dT e ty : TypeId} {x : Operand} {pos : String} {aft : Array Edge} (ok : (ops.all fun o => match o.dst with | some d => decide (d < n) | none => true) = true)
    (hoc : ops[c]? = some ⟨some dd, .convert sT dT x, ty, pos, aft, none⟩) (hsT : P.underlying sT = some .string) (hdT : P.underlying dT = some (.slice e)) (he : P.underlying e = some (.int .u8))
    (hr : S P ops (SB P ops N x dd (ops.drop (c + 1))) (ops.take c) l h) : V P n (.region id ops.toArray false) N R X l h := V_regB _ _ ok (take_drop_at hoc) hsT hdT he hr
theorem V_srBc {n : Nat} {N R : Ko} {X : List (Nat × Ko)} {id : Nat} {y : Code} (c : Nat) {dd : Nat} {sT dT e ty : TypeId} {x : Operand} {pos : String} {aft : Array Edge} (ok : (ops.all fun o => match o.dst with | some d => decide (d < n) | none => true) = true)
    (hoc : ops[c]? = some ⟨some dd, .convert sT dT x, ty, pos, aft, none⟩) (hsT : P.underlying sT = some .string) (hdT : P.underlying dT = some (.slice e)) (he : P.underlying e = some (.int .u8))
    (hr : ∀ K : Ko, (∀ l h, V P n y N R X l h → K l h) → S P ops (SB P ops K x dd (ops.drop (c + 1))) (ops.take c) l h) : V P n (.seq (.region id ops.toArray false) y) N R X l h :=
  V_seq fun K hK => V_regBc c ok hoc hsT hdT he (hr K hK)
end frames
end Go.Eng
