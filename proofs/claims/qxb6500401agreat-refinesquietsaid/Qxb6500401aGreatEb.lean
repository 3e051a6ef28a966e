import Derived.Test.Qxb6500401aGreatEa
set_option linter.unusedVariables false
set_option linter.unusedSimpArgs false
namespace Go.Eng

/-! ### one operation -/
def yB : Value → Option Bool
  | .bool b => some b
  | _ => none

def wantE (ops : Array Oper) (env : Env) (o : Oper) : Option Bool :=
  match o.guard with
  | none => some true
  | some (j, want) => match (ops[j]?).bind (·.dst) with
    | some d => match env d with
      | some v => some (yB v == some want)
      | none => none
    | none => none

section one
variable {P : Program}

theorem want_sound {n : Nat} {ops : Array Oper} {env : Env} {o : Oper} {a : Act} {b : Bool} (hs : Sees n env a) (h : wantE ops env o = some b) : Region.wanted o (yielded ops a.tmps) = b := by
  unfold wantE at h
  unfold Region.wanted
  split at h
  · rename_i hg; simp at h; simp [hg, h]
  · rename_i j want hg
    simp only [hg]
    split at h
    · rename_i d hd
      split at h
      · rename_i v hv
        simp only [Option.some.injEq] at h
        subst h
        have := hs.slot d v hv
        simp only [yielded, hd, Option.bind_some, this]
        cases v <;> rfl
      · simp at h
    · simp at h

theorem opW_mono {env : Env} {h : Heap} {K K' : Value → Heap → Prop} {op : Op} (hk : ∀ v h', K v h' → K' v h') (hw : opW P env h K op) : opW P env h K' op := by
  unfold opW at hw ⊢
  split at hw
  · obtain ⟨v, h1, h2⟩ := hw; exact ⟨v, h1, hk _ _ h2⟩
  · obtain ⟨v, h1, h2⟩ := hw; exact ⟨v, h1, hk _ _ h2⟩
  · obtain ⟨v, cs, t, h1, h2⟩ := hw; exact ⟨v, cs, t, h1, hk _ _ h2⟩
  · unfold lW at hw ⊢
    split at hw
    · obtain ⟨ad, v, h', h1, h2, h3, h4⟩ := hw; exact ⟨ad, v, h', h1, h2, h3, hk _ _ h4⟩
    · split at hw
      · obtain ⟨vs, h1, h2, h3⟩ := hw; exact ⟨vs, h1, h2, h3.mono hk⟩
      · obtain ⟨s, x, h1, e, size, bytes, z, base, sLen, sCap, n, new, a1, a2, a3, a4, a5, a6, a7⟩ := hw
        refine ⟨s, x, h1, e, size, bytes, z, base, sLen, sCap, n, new, a1, a2, a3, a4, a5, a6, ?_⟩
        rcases a7 with ⟨b1, h', b2, b3⟩ | ⟨b1, b2, b3, old, b4, b5⟩
        · exact .inl ⟨b1, h', b2, hk _ _ b3⟩
        · exact .inr ⟨b1, b2, b3, old, b4, fun c c1 c2 => hk _ _ (b5 c c1 c2)⟩
      · obtain ⟨s, x, h1, size, base, dLen, dCap, n, cs, h', a1, a2, a3, a4, a5, a6⟩ := hw
        exact ⟨s, x, h1, size, base, dLen, dCap, n, cs, h', a1, a2, a3, a4, a5, hk _ _ a6⟩
      · exact hw
    · exact hw

theorem opW_some {env : Env} {h : Heap} {K : Value → Heap → Prop} {op : Op} (hw : opW P env h K op) : ∃ v h', K v h' := by
  unfold opW at hw
  split at hw
  · obtain ⟨v, h1, h2⟩ := hw; exact ⟨_, _, h2⟩
  · obtain ⟨v, h1, h2⟩ := hw; exact ⟨_, _, h2⟩
  · obtain ⟨v, cs, t, h1, h2⟩ := hw; exact ⟨_, _, h2⟩
  · unfold lW at hw
    split at hw
    · obtain ⟨ad, v, h', h1, h2, h3, h4⟩ := hw; exact ⟨_, _, h4⟩
    · split at hw
      · obtain ⟨vs, h1, h2, h3⟩ := hw; exact h3.some
      · obtain ⟨s, x, h1, e, size, bytes, z, base, sLen, sCap, n, new, a1, a2, a3, a4, a5, a6, a7⟩ := hw
        rcases a7 with ⟨b1, h', b2, b3⟩ | ⟨b1, b2, b3, old, b4, b5⟩
        · exact ⟨_, _, b3⟩
        · exact ⟨_, _, b5 (sLen + n) (Nat.le_refl _) b2⟩
      · obtain ⟨s, x, h1, size, base, dLen, dCap, n, cs, h', a1, a2, a3, a4, a5, a6⟩ := hw
        exact ⟨_, _, a6⟩
      · exact hw.elim
    · exact hw.elim

theorem run_callFunc (w : World) (f : FuncId) (args : Array Value) (hb : hasB P f = true) : (callFunc f args).run P w = .ok (.enter f args) w := by
  unfold hasB at hb
  split at hb
  · rename_i fn hf
    simp only [Bool.and_eq_true, bne_iff_ne, ne_eq] at hb
    simp only [callFunc, Sem.run_bind, run_program, Result.andThen_ok, hf]
    rw [if_neg (by simpa using hb.1), if_neg (by have := hb.2; cases hbb : fn.body <;> simp_all)]
    rfl
  · simp at hb

theorem lW_sound {n : Nat} {env : Env} {a : Act} (hs : Sees n env a) (w0 : World) (h : Heap) (d : Nat) (o : Oper) (K : Value → Heap → Prop) (hw : lW P env h K o.op) (next : Act → World → Prop) (Q : Exit → Act → World → Prop)
    (hn : ∀ v h' d', K v h' → next (a.put o.dst v) (wd w0 h' d')) : o.wp P a (wd w0 h d) next Q := by
  unfold Oper.wp
  obtain ⟨dst, op, ty, pos, aft, g⟩ := o
  simp only at hw
  unfold lW at hw
  split at hw
  · rename_i t x y
    obtain ⟨ad, v, h', h1, h2, h3, h4⟩ := hw
    have e : (execOp a.eval ⟨dst, .store t x y, ty, pos, aft, g⟩).run P (wd w0 h d) = .ok .skip (wd w0 h' d) := by
      simp [execOp, Instr.storeAt, Instr.sureAddr, hs.eval h1, hs.eval h2, run_storeV w0 h d t ad v h' h3]
    rw [e]; exact hn _ _ _ h4
  · rename_i c
    obtain ⟨cal, args, tys⟩ := c
    simp only at hw
    split at hw
    · rename_i f
      obtain ⟨vs, h1, h2, h3⟩ := hw
      have ea : args.map a.eval = vs.toArray := by rw [← hs.evals h1, ← Array.toList_map, Array.toArray_toList]
      have e : (execOp a.eval ⟨dst, .call ⟨.value (.func f), args, tys⟩, ty, pos, aft, g⟩).run P (wd w0 h d) = .ok (.enter f vs.toArray) (wd w0 h d) := by
        simp only [execOp, resolve, Act.eval, Deferred.ofValue, invoke, Sem.run_bind, Sem.run_pure, Result.andThen_ok]
        rw [show (args.map fun x => a.eval x) = vs.toArray from ea, show (#[] : Array Value) ++ vs.toArray ++ #[] = vs.toArray by simp]
        exact run_callFunc _ f _ h2
      rw [e]
      exact (h3 w0 d).mono fun e w' ⟨v, h', d', e1, e2, r⟩ => by subst e1; subst e2; exact hn _ _ _ r
    · rename_i sT xT htys
      obtain ⟨s, x, h1, h2⟩ := hw
      have ea : args.map a.eval = #[s, x] := by apply Array.toList_inj.1; rw [Array.toList_map]; exact hs.evals h1
      have et : tys = #[sT, xT] := by apply Array.toList_inj.1; simpa using htys
      subst et
      obtain ⟨v, h', d', e1, e2⟩ := run_appW (P := P) w0 h d K sT xT ty s x h2
      have e : (execOp a.eval ⟨dst, .call ⟨.builtin .append, args, #[sT, xT]⟩, ty, pos, aft, g⟩).run P (wd w0 h d) = .ok (.value v) (wd w0 h' d') := by
        simp only [execOp, resolve, ea, invoke, builtin, Sem.run_bind, Sem.run_pure, Result.andThen_ok, e1]
      rw [e]; exact hn _ _ _ e2
    · rename_i dT xT htys
      obtain ⟨s, x, h1, h2⟩ := hw
      have ea : args.map a.eval = #[s, x] := by apply Array.toList_inj.1; rw [Array.toList_map]; exact hs.evals h1
      have et : tys = #[dT, xT] := by apply Array.toList_inj.1; simpa using htys
      subst et
      obtain ⟨v, h', e1, e2⟩ := run_copyW (P := P) w0 h d K dT xT ty s x h2
      have e : (execOp a.eval ⟨dst, .call ⟨.builtin .copy, args, #[dT, xT]⟩, ty, pos, aft, g⟩).run P (wd w0 h d) = .ok (.value v) (wd w0 h' d) := by
        simp only [execOp, resolve, ea, invoke, builtin, Sem.run_bind, Sem.run_pure, Result.andThen_ok, e1]
      rw [e]; exact hn _ _ _ e2
    · exact hw.elim
  · exact hw.elim

theorem opW_sound {n : Nat} {env : Env} {a : Act} (hs : Sees n env a) (w0 : World) (h : Heap) (d : Nat) (o : Oper) (K : Value → Heap → Prop) (hw : opW P env h K o.op) (next : Act → World → Prop) (Q : Exit → Act → World → Prop)
    (hn : ∀ v h' d', K v h' → next (a.put o.dst v) (wd w0 h' d')) : o.wp P a (wd w0 h d) next Q := by
  unfold opW at hw
  split at hw
  · obtain ⟨v, h1, h2⟩ := hw
    unfold Oper.wp
    rw [run_q hs w0 h d o v h1]; exact hn _ _ _ h2
  · obtain ⟨v, h1, h2⟩ := hw
    unfold Oper.wp
    rw [run_q hs w0 h d o v h1]; exact hn _ _ _ h2
  · obtain ⟨v, cs, t, h1, h2⟩ := hw
    unfold Oper.wp
    rw [run_aV hs w0 h d o v cs t h1]; exact hn _ _ _ h2
  · exact lW_sound hs w0 h d o K hw next Q hn
end one

/-! ### a region -/
def stepW (P : Program) (ops : Array Oper) (o : Oper) (K : Env → Heap → Prop) (env : Env) (h : Heap) : Prop :=
  (wantE ops env o = some true ∧ opW P env h (fun v h' => K (bnd o.dst v env) h') o.op) ∨ (wantE ops env o = some false ∧ K (bnd o.dst undef env) h)

def regI (P : Program) (ops : Array Oper) (K : Env → Heap → Prop) : List Nat → Env → Heap → Prop
  | [], env, h => K env h
  | i :: r, env, h => ∃ o, ops[i]? = some o ∧ stepW P ops o (regI P ops K r) env h

def regL (P : Program) (ops : Array Oper) (K : Env → Heap → Prop) : List Oper → Env → Heap → Prop
  | [], env, h => K env h
  | o :: r, env, h => stepW P ops o (regL P ops K r) env h

section region
variable {P : Program} {ops : Array Oper}

theorem stepW_mono {o : Oper} {K K' : Env → Heap → Prop} {env : Env} {h : Heap} (hk : ∀ env h, K env h → K' env h) (hw : stepW P ops o K env h) : stepW P ops o K' env h := by
  rcases hw with ⟨h1, h2⟩ | ⟨h1, h2⟩
  · exact .inl ⟨h1, opW_mono (fun _ _ => hk _ _) h2⟩
  · exact .inr ⟨h1, hk _ _ h2⟩

theorem regI_mono {K K' : Env → Heap → Prop} (hk : ∀ env h, K env h → K' env h) : ∀ (l : List Nat) (env : Env) (h : Heap), regI P ops K l env h → regI P ops K' l env h
  | [], env, h, hr => hk _ _ hr
  | i :: r, env, h, ⟨o, ho, hs⟩ => ⟨o, ho, stepW_mono (regI_mono hk r) hs⟩

theorem regL_mono {K K' : Env → Heap → Prop} (hk : ∀ env h, K env h → K' env h) : ∀ (l : List Oper) (env : Env) (h : Heap), regL P ops K l env h → regL P ops K' l env h
  | [], env, h, hr => hk _ _ hr
  | o :: r, env, h, hs => stepW_mono (regL_mono hk r) hs

theorem regL_regI {K : Env → Heap → Prop} (l : List Oper) : ∀ k, (∀ j, l[j]? = ops[k + j]?) → ∀ env h, regL P ops K l env h → regI P ops K (List.range' k l.length) env h := by
  induction l with
  | nil => intro k _ env h hr; exact hr
  | cons o l ih =>
    intro k hk env h hr
    have h0 : ops[k]? = some o := by simpa using (hk 0).symm
    have ih' := ih (k + 1) (fun j => by have := hk (j + 1); simpa [Nat.add_assoc, Nat.add_comm 1 j] using this)
    rw [List.length_cons, List.range'_succ]
    exact ⟨o, h0, stepW_mono ih' hr⟩

theorem regI_sound {K : Env → Heap → Prop} {Q : Exit → Act → World → Prop} {n : Nat} {w0 : World} (hd : ∀ o ∈ ops.toList, ∀ d, o.dst = some d → d < n)
    (hK : ∀ env h a d, Sees n env a → K env h → Q .normal a (wd w0 h d)) : ∀ (l : List Nat) (env : Env) (h : Heap) (a : Act) (d : Nat), Sees n env a → regI P ops K l env h → wpOps P ops Q l a (wd w0 h d)
  | [], env, h, a, d, hs, hr => hK env h a d hs hr
  | i :: r, env, h, a, d, hs, ⟨o, ho, hr⟩ => by
    have hdo := hd o (by rw [Array.mem_toList_iff]; exact Array.mem_of_getElem? ho)
    simp only [wpOps, ho]
    rcases hr with ⟨h1, h2⟩ | ⟨h1, h2⟩
    · rw [want_sound hs h1]
      simp only [if_true]
      refine .inl (opW_sound hs w0 h d o _ h2 _ Q fun v h' d' hk => ?_)
      exact regI_sound hd hK r _ h' _ d' (hs.put o.dst v hdo) hk
    · rw [want_sound hs h1]
      simp only [Bool.false_eq_true, if_false]
      exact regI_sound hd hK r _ h _ d (hs.put o.dst undef hdo) h2
end region


/-! ### whatever order the tape draws -/
section order
variable {P : Program} {ops : Array Oper}

theorem evs_env {env env' : Env} : ∀ (l : List Operand), (∀ x ∈ l, ev env' x = ev env x) → evs env' l = evs env l
  | [], _ => rfl
  | x :: r, h => by
    simp only [evs]
    rw [h x (by simp), evs_env r fun y hy => h y (by simp [hy])]
theorem evps_env {env env' : Env} : ∀ (l : List (Nat × Operand)), (∀ x ∈ l, ev env' x.2 = ev env x.2) → evps env' l = evps env l
  | [], _ => rfl
  | x :: r, h => by
    simp only [evps]
    rw [h x (by simp), evps_env r fun y hy => h y (by simp [hy])]
theorem evo_env {env env' : Env} (x : Option Operand) (h : ∀ y, x = some y → ev env' y = ev env y) : evo env' x = evo env x := by
  cases x with
  | none => rfl
  | some y => simp only [evo]; rw [h y rfl]

theorem qV_env {env env' : Env} (h : Heap) (op : Op) (he : ∀ x ∈ op.operands.toList, ev env' x = ev env x) : qV P env' h op = qV P env h op := by
  cases op with
  | slice t x lo hi mx =>
    cases mx with
    | some m => rfl
    | none =>
      have h1 := he x (by simp [Op.operands])
      have h2 := evo_env (env := env) (env' := env') lo fun y hy => he y (by subst hy; simp [Op.operands])
      have h3 := evo_env (env := env) (env' := env') hi fun y hy => he y (by subst hy; simp [Op.operands])
      simp only [qV, h1, h2, h3]
  | build t ps =>
    have h1 := evps_env (env := env) (env' := env') ps.toList fun x hx => he x.2 (by
      simp only [Op.operands, List.mem_map]
      exact ⟨x, hx, rfl⟩)
    simp only [qV, h1]
  | call c =>
    have h1 : ∀ x ∈ c.args.toList, ev env' x = ev env x := fun x hx => he x (by simp only [Op.operands, Call.operands, Array.toList_append, List.mem_append]; exact .inr hx)
    simp only [qV]
    split
    · rename_i x t _ ha _
      rw [h1 x (by rw [ha]; simp)]
    · rename_i x t _ ha _
      rw [h1 x (by rw [ha]; simp)]
    · rfl
  | pick c x y =>
    have h1 := he c (by simp [Op.operands]); have h2 := he x (by simp [Op.operands]); have h3 := he y (by simp [Op.operands])
    simp only [qV, h1, h2, h3]
  | binOp o t x y t' =>
    have h1 := he x (by simp [Op.operands]); have h2 := he y (by simp [Op.operands])
    simp only [qV, h1, h2]
  | indexAddr t x y =>
    have h1 := he x (by simp [Op.operands]); have h2 := he y (by simp [Op.operands])
    simp only [qV, h1, h2]
  | index t x y =>
    have h1 := he x (by simp [Op.operands]); have h2 := he y (by simp [Op.operands])
    simp only [qV, h1, h2]
  | move x => have h1 := he x (by simp [Op.operands]); simp only [qV, h1]
  | assign x => have h1 := he x (by simp [Op.operands]); simp only [qV, h1]
  | nilCheck x => have h1 := he x (by simp [Op.operands]); simp only [qV, h1]
  | unOp o t x => have h1 := he x (by simp [Op.operands]); simp only [qV, h1]
  | convert s d x => have h1 := he x (by simp [Op.operands]); simp only [qV, h1]
  | fieldAddr s x f => have h1 := he x (by simp [Op.operands]); simp only [qV, h1]
  | extract x i => have h1 := he x (by simp [Op.operands]); simp only [qV, h1]
  | load t x => have h1 := he x (by simp [Op.operands]); simp only [qV, h1]
  | _ => rfl

theorem aV_env {env env' : Env} (n : Nat) (op : Op) (he : ∀ x ∈ op.operands.toList, ev env' x = ev env x) : aV P env' n op = aV P env n op := by
  cases op with
  | box t x => have h1 := he x (by simp [Op.operands]); simp only [aV, h1]
  | makeSlice t x y =>
    have h1 := he x (by simp [Op.operands]); have h2 := he y (by simp [Op.operands])
    simp only [aV, h1, h2]
  | buildSlice t n ps =>
    have h1 := evps_env (env := env) (env' := env') ps.toList fun x hx => he x.2 (by
      simp only [Op.operands, List.mem_map]
      exact ⟨x, hx, rfl⟩)
    simp only [aV, h1]
  | _ => rfl

theorem lW_env {env env' : Env} (h : Heap) (K : Value → Heap → Prop) (op : Op) (he : ∀ x ∈ op.operands.toList, ev env' x = ev env x) : lW P env' h K op = lW P env h K op := by
  cases op with
  | store t x y =>
    have h1 := he x (by simp [Op.operands]); have h2 := he y (by simp [Op.operands])
    simp only [lW, h1, h2]
  | call c =>
    have h1 := evs_env (env := env) (env' := env') c.args.toList fun x hx => he x (by simp only [Op.operands, Call.operands, Array.toList_append, List.mem_append]; exact .inr hx)
    simp only [lW, h1]
  | _ => rfl

theorem opW_env {env env' : Env} (h : Heap) (K : Value → Heap → Prop) (op : Op) (he : ∀ x ∈ op.operands.toList, ev env' x = ev env x) : opW P env' h K op = opW P env h K op := by
  simp only [opW, qV_env h op he, aV_env h.size op he, lW_env h K op he]

theorem qV_pure {env : Env} (h h' : Heap) (op : Op) (hc : cls P op = 0) : qV P env h op = qV P env h' op := by
  cases op with
  | load t x => simp [cls] at hc
  | convert s d x =>
    simp only [cls] at hc
    split at hc
    · rename_i k hk
      simp only [qV, convV, hk]
    · simp at hc
  | slice t x lo hi mx => cases mx <;> rfl
  | _ => rfl

theorem cellH_push {h : Heap} {a : Addr} {v : Value} (o : Obj) (hc : cellH h a = some v) : cellH (h.push o) a = some v := by
  unfold cellH at hc ⊢
  have : a.block < h.size := by
    rcases Nat.lt_or_ge a.block h.size with h' | h'
    · exact h'
    · simp [Array.getElem?_eq_none h'] at hc
  rw [Array.getElem?_push, if_neg (by omega)]
  exact hc

theorem cellsH_push {h : Heap} {a : Addr} (o : Obj) : ∀ (n i : Nat) (l : List Value), cellsH h a i n = some l → cellsH (h.push o) a i n = some l
  | 0, i, l, hl => hl
  | n + 1, i, l, hl => by
    simp only [cellsH] at hl ⊢
    split at hl
    · rename_i v hv
      rw [cellH_push o hv]
      simp only [Option.map_eq_some_iff] at hl ⊢
      obtain ⟨l', h1, h2⟩ := hl
      exact ⟨l', cellsH_push o n (i + 1) l' h1, h2⟩
    · simp at hl

theorem qV_push {env : Env} {h : Heap} {op : Op} {v : Value} (o : Obj) (hc : cls P op = 1) (hq : qV P env h op = some v) : qV P env (h.push o) op = some v := by
  cases op with
  | load t x =>
    simp only [qV] at hq ⊢
    split at hq
    · simp only [loadV] at hq ⊢
      split at hq
      · exact cellH_push o hq
      · simp only [Option.map_eq_some_iff] at hq ⊢
        obtain ⟨l, h1, h2⟩ := hq
        exact ⟨l, cellsH_push o _ _ l h1, h2⟩
      · simp at hq
    · simp at hq
  | convert s d x =>
    simp only [qV] at hq ⊢
    split at hq
    · simp only [convV] at hq ⊢
      split at hq
      · exact hq
      · split at hq
        · rename_i hk
          rw [if_pos hk]
          split at hq
          · exact hq
          · simp only [Option.map_eq_some_iff, Option.bind_eq_some_iff] at hq ⊢
            obtain ⟨l, ⟨cs, h1, h2⟩, h3⟩ := hq
            exact ⟨l, ⟨cs, cellsH_push o _ _ cs h1, h2⟩, h3⟩
          · simp at hq
        · simp at hq
    · simp at hq
  | call c =>
    simp only [cls] at hc
    split at hc <;> simp at hc
  | _ => simp [cls] at hc

theorem bnd_comm {env : Env} {x y : Option Tmp} (v u : Value) (h : ∀ d, x = some d → y ≠ some d) : bnd y u (bnd x v env) = bnd x v (bnd y u env) := by
  cases x with
  | none => rfl
  | some d =>
    cases y with
    | none => rfl
    | some e =>
      have hne : d ≠ e := fun he => h d rfl (he ▸ rfl)
      funext t
      simp only [bnd]
      by_cases h1 : t = d <;> by_cases h2 : t = e <;> simp_all

theorem ev_bnd {env : Env} {dst : Option Tmp} {v : Value} {x : Operand} (h : ∀ d, dst = some d → x ≠ .tmp d) : ev (bnd dst v env) x = ev env x := by
  cases dst with
  | none => rfl
  | some d =>
    cases x with
    | tmp t =>
      have hne : t ≠ d := fun e => h d rfl (e ▸ rfl)
      simp [ev, bnd, hne]
    | _ => rfl

theorem looks_op {o : Oper} {d : Tmp} (h : d ∉ o.looksAt ops) : ∀ x ∈ o.op.operands.toList, x ≠ .tmp d := by
  intro x hx he
  subst he
  apply h
  simp only [Oper.looksAt, List.mem_append, List.mem_filterMap]
  exact .inl ⟨_, hx, rfl⟩

theorem want_bnd {o : Oper} {env : Env} {dst : Option Tmp} {v : Value} (h : ∀ d, dst = some d → d ∉ o.looksAt ops) : wantE ops (bnd dst v env) o = wantE ops env o := by
  unfold wantE
  split
  · rfl
  · rename_i j want hg
    split
    · rename_i d hd
      cases dst with
      | none => rfl
      | some e =>
        have hne : d ≠ e := fun he => h e rfl (by
          subst he
          simp only [Oper.looksAt, List.mem_append, hg, hd]
          exact .inr (by simp))
        simp [bnd, hne]
    · rfl

def pairOK (ci cj : Nat) : Bool := ci == 0 || cj == 0 || (ci == 1 && (cj == 1 || cj == 2))

/-- a quiet operation -/
theorem opW_quiet {env : Env} {h : Heap} {K : Value → Heap → Prop} {op : Op} (hc : cls P op = 0 ∨ cls P op = 1) : opW P env h K op = ∃ v, qV P env h op = some v ∧ K v h := by
  unfold opW
  rcases hc with hc | hc <;> simp only [hc]

/-- behind an operation of kind c a quiet operation still yields what it yielded -/
theorem opW_keep {env env1 : Env} {h : Heap} {K : Value → Heap → Prop} {oi oj : Op} {vi : Value} (hp : pairOK (cls P oi) (cls P oj) = true) (hi : cls P oi = 0 ∨ cls P oi = 1) (hq : qV P env1 h oi = some vi)
    (hj : opW P env h K oj) : opW P env h (fun v h1 => K v h1 ∧ qV P env1 h1 oi = some vi) oj := by
  rcases hi with hi | hi
  · exact opW_mono (fun v h1 hk => ⟨hk, by rw [qV_pure h1 h oi hi]; exact hq⟩) hj
  · simp only [pairOK, hi] at hp
    unfold opW at hj ⊢
    split at hj
    · obtain ⟨v, h1, h2⟩ := hj; exact ⟨v, h1, h2, hq⟩
    · obtain ⟨v, h1, h2⟩ := hj; exact ⟨v, h1, h2, hq⟩
    · obtain ⟨v, cs, t, h1, h2⟩ := hj; exact ⟨v, cs, t, h1, h2, qV_push _ hi hq⟩
    · exfalso
      rename_i x a0 a1 a2
      simp at hp
      rcases hp with hp | hp | hp
      · exact a0 hp
      · exact a1 hp
      · exact a2 hp

theorem swap {oi oj : Oper} {K : Env → Heap → Prop} {env : Env} {h : Heap} (hap : oi.apart ops oj = true) (hp : pairOK (cls P oi.op) (cls P oj.op) = true)
    (hw : stepW P ops oi (stepW P ops oj K) env h) : stepW P ops oj (stepW P ops oi K) env h := by
  obtain ⟨a1, a2, a3⟩ := Oper.apart_spec hap
  -- what the one sees of the other's temporary: nothing
  have wj : ∀ v, wantE ops (bnd oi.dst v env) oj = wantE ops env oj := fun v => want_bnd a1
  have wi : ∀ v, wantE ops (bnd oj.dst v env) oi = wantE ops env oi := fun v => want_bnd a3
  have ej : ∀ v, ∀ x ∈ oj.op.operands.toList, ev (bnd oi.dst v env) x = ev env x := fun v x hx => ev_bnd fun d hd => looks_op (a1 d hd) x hx
  have ei : ∀ v, ∀ x ∈ oi.op.operands.toList, ev (bnd oj.dst v env) x = ev env x := fun v x hx => ev_bnd fun d hd => looks_op (a3 d hd) x hx
  have com : ∀ v u, bnd oj.dst u (bnd oi.dst v env) = bnd oi.dst v (bnd oj.dst u env) := fun v u => bnd_comm v u a2
  rcases hw with ⟨hwi, hi⟩ | ⟨hwi, hi⟩
  · -- the first is carried out
    by_cases hqi : cls P oi.op = 0 ∨ cls P oi.op = 1
    · rw [opW_quiet hqi] at hi
      obtain ⟨vi, hq, hj⟩ := hi
      rcases hj with ⟨hwj, hj⟩ | ⟨hwj, hj⟩
      · rw [wj] at hwj
        rw [opW_env h _ oj.op (ej vi)] at hj
        refine .inl ⟨hwj, opW_mono ?_ (opW_keep hp hqi hq hj)⟩
        rintro v h1 ⟨hk, hq1⟩
        refine .inl ⟨by rw [wi]; exact hwi, ?_⟩
        rw [opW_quiet hqi]
        refine ⟨vi, by rw [qV_env h1 oi.op (ei v)]; exact hq1, ?_⟩
        rw [← com]; exact hk
      · rw [wj] at hwj
        refine .inr ⟨hwj, .inl ⟨by rw [wi]; exact hwi, ?_⟩⟩
        rw [opW_quiet hqi]
        refine ⟨vi, by rw [qV_env h oi.op (ei _)]; exact hq, ?_⟩
        rw [← com]; exact hj
    · -- then the second is pure
      have hcj : cls P oj.op = 0 := by
        simp only [pairOK, Bool.or_eq_true, beq_iff_eq, Bool.and_eq_true] at hp
        rcases hp with (h' | h') | h'
        · exact absurd (.inl h') hqi
        · exact h'
        · exact absurd (.inr h'.1) hqi
      obtain ⟨v0, h0, hj0⟩ := opW_some hi
      have hqj : cls P oj.op = 0 ∨ cls P oj.op = 1 := .inl hcj
      rcases hj0 with ⟨hwj, hj0⟩ | ⟨hwj, hj0⟩
      · rw [wj] at hwj
        rw [opW_quiet hqj] at hj0
        obtain ⟨vj, hvj, _⟩ := hj0
        rw [qV_env h0 oj.op (ej v0), qV_pure h0 h oj.op hcj] at hvj
        refine .inl ⟨hwj, ?_⟩
        rw [opW_quiet hqj]
        refine ⟨vj, hvj, .inl ⟨by rw [wi]; exact hwi, ?_⟩⟩
        rw [opW_env h _ oi.op (ei vj)]
        refine opW_mono ?_ hi
        intro v h1 hs
        rcases hs with ⟨_, hs⟩ | ⟨hs, _⟩
        · rw [opW_quiet hqj] at hs
          obtain ⟨u, hu, hk⟩ := hs
          rw [qV_env h1 oj.op (ej v), qV_pure h1 h oj.op hcj, hvj] at hu
          simp only [Option.some.injEq] at hu
          subst hu
          rw [← com]; exact hk
        · rw [wj, hwj] at hs; simp at hs
      · rw [wj] at hwj
        refine .inr ⟨hwj, .inl ⟨by rw [wi]; exact hwi, ?_⟩⟩
        rw [opW_env h _ oi.op (ei undef)]
        refine opW_mono ?_ hi
        intro v h1 hs
        rcases hs with ⟨hs, _⟩ | ⟨_, hk⟩
        · rw [wj, hwj] at hs; simp at hs
        · rw [← com]; exact hk
  · -- the first is passed over
    rcases hi with ⟨hwj, hj⟩ | ⟨hwj, hj⟩
    · rw [wj] at hwj
      rw [opW_env h _ oj.op (ej undef)] at hj
      refine .inl ⟨hwj, opW_mono ?_ hj⟩
      intro v h1 hk
      refine .inr ⟨by rw [wi]; exact hwi, ?_⟩
      rw [← com]; exact hk
    · rw [wj] at hwj
      refine .inr ⟨hwj, .inr ⟨by rw [wi]; exact hwi, ?_⟩⟩
      rw [← com]; exact hj
end order

/-! ### the static look -/
def bitOf (M : Array Nat) (j i : Nat) : Bool := (M.getD j 0).testBit i

def pairChk (P : Program) (ops : Array Oper) (M : Array Nat) (oi oj : Oper) (i j : Nat) : Bool :=
  if bitOf M j i then oj.after.any fun e => Region.binds .any e && (e.on == i || (i < e.on && bitOf M e.on i))
  else oi.apart ops oj && pairOK (cls P oi.op) (cls P oj.op)

def rowChk (P : Program) (ops : Array Oper) (M : Array Nat) (j : Nat) (oj : Oper) : List Oper → Nat → Bool
  | [], _ => true
  | oi :: r, i => (i ≥ j || pairChk P ops M oi oj i j) && rowChk P ops M j oj r (i + 1)

def lexChk (P : Program) (ops : Array Oper) (M : Array Nat) : List Oper → Nat → Bool
  | [], _ => true
  | oj :: r, j => (oj.after.all fun e => !Region.binds .any e || e.on < j) && rowChk P ops M j oj ops.toList 0 && lexChk P ops M r (j + 1)

def okReg (P : Program) (n : Nat) (ops : Array Oper) (draw : Bool) : Bool :=
  (ops.toList.all fun o => match o.dst with | some d => d < n | none => true) && (!draw || lexChk P ops (Region.before ops) ops.toList 0)

section draws
variable {P : Program} {ops : Array Oper}

theorem rowChk_spec {M : Array Nat} {j : Nat} {oj : Oper} : ∀ (l : List Oper) (k : Nat), rowChk P ops M j oj l k = true → ∀ i oi, l[i]? = some oi → k + i < j → pairChk P ops M oi oj (k + i) j = true
  | [], k, _, i, oi, hi, _ => by simp at hi
  | o :: l, k, h, i, oi, hi, hlt => by
    simp only [rowChk, Bool.and_eq_true, Bool.or_eq_true, decide_eq_true_eq] at h
    cases i with
    | zero =>
      simp only [List.getElem?_cons_zero, Option.some.injEq] at hi; subst hi
      rcases h.1 with h1 | h1
      · omega
      · simpa using h1
    | succ i =>
      simp only [List.getElem?_cons_succ] at hi
      have := rowChk_spec l (k + 1) h.2 i oi hi (by omega)
      rwa [show k + (i + 1) = k + 1 + i by omega]

theorem lexChk_spec {M : Array Nat} : ∀ (l : List Oper) (k : Nat), lexChk P ops M l k = true → ∀ j oj, l[j]? = some oj → (∀ e ∈ oj.after, Region.binds .any e = true → e.on < k + j) ∧ ∀ i oi, ops[i]? = some oi → i < k + j → pairChk P ops M oi oj i (k + j) = true
  | [], k, _, j, oj, hj => by simp at hj
  | o :: l, k, h, j, oj, hj => by
    simp only [lexChk, Bool.and_eq_true] at h
    cases j with
    | zero =>
      simp only [List.getElem?_cons_zero, Option.some.injEq] at hj; subst hj
      refine ⟨fun e he hb => ?_, fun i oi hi hlt => ?_⟩
      · have := Array.all_eq_true'.1 h.1.1 e he
        simp only [hb, Bool.not_true, Bool.false_or, decide_eq_true_eq] at this
        omega
      · have := rowChk_spec ops.toList 0 h.1.2 i oi (by simpa using hi) (by omega)
        simpa using this
    | succ j =>
      simp only [List.getElem?_cons_succ] at hj
      have := lexChk_spec l (k + 1) h.2 j oj hj
      rwa [show k + 1 + j = k + (j + 1) by omega] at this

def Closed (ops : Array Oper) (listed : Array Bool) : Prop := ∀ k o, ops[k]? = some o → listed.getD k false = true → ∀ e ∈ o.after, Region.binds .any e = true → listed.getD e.on false = true

theorem pre_listed {M : Array Nat} {listed : Array Bool} (hall : ∀ j oj, ops[j]? = some oj → (∀ e ∈ oj.after, Region.binds .any e = true → e.on < j) ∧ ∀ i oi, ops[i]? = some oi → i < j → pairChk P ops M oi oj i j = true) (hcl : Closed ops listed) :
    ∀ (j : Nat) (oj : Oper) (i : Nat) (oi : Oper), ops[j]? = some oj → ops[i]? = some oi → i < j → bitOf M j i = true → (∀ e ∈ oj.after, Region.binds .any e = true → listed.getD e.on false = true) → listed.getD i false = true := by
  intro j
  induction j using Nat.strongRecOn with
  | _ j ih =>
    intro oj i oi hj hi hlt hbit hre
    have hp := (hall j oj hj).2 i oi hi hlt
    simp only [pairChk, hbit, if_true, Array.any_eq_true'] at hp
    obtain ⟨e, he, hp⟩ := hp
    simp only [Bool.and_eq_true, Bool.or_eq_true, beq_iff_eq, decide_eq_true_eq] at hp
    obtain ⟨hb, hp⟩ := hp
    have hle := (hall j oj hj).1 e he hb
    have hl := hre e he hb
    rcases hp with hp | ⟨hp1, hp2⟩
    · rw [← hp]; exact hl
    · have hsz : e.on < ops.size := by
        have : j < ops.size := by
          rcases Nat.lt_or_ge j ops.size with h' | h'
          · exact h'
          · simp [Array.getElem?_eq_none h'] at hj
        omega
      exact ih e.on hle ops[e.on] i oi (by simp [hsz]) hi hp1 hp2 (hcl e.on ops[e.on] (by simp [hsz]) hl)

theorem mem_rdy {listed : Array Bool} {i : Nat} : i ∈ Region.ready .any ops listed ↔ listed.getD i true = false ∧ ∃ o, ops[i]? = some o ∧ ∀ e ∈ o.after, Region.binds .any e = true → listed.getD e.on false = true := by
  unfold Region.ready
  simp only [List.mem_filter, List.mem_range, Bool.and_eq_true, Bool.not_eq_true']
  constructor
  · rintro ⟨h1, h2, h3⟩
    refine ⟨h2, ops[i], by simp [h1], fun e he hb => ?_⟩
    simp only [Array.getElem?_eq_getElem h1, Option.map_some, Option.getD_some] at h3
    have := Array.all_eq_true'.1 h3 e he
    simpa [hb] using this
  · rintro ⟨h2, o, ho, h3⟩
    have h1 : i < ops.size := by
      rcases Nat.lt_or_ge i ops.size with h' | h'
      · exact h'
      · simp [Array.getElem?_eq_none h'] at ho
    refine ⟨h1, h2, ?_⟩
    simp only [ho, Option.map_some, Option.getD_some]
    refine Array.all_eq_true'.2 fun e he => ?_
    cases hb : Region.binds .any e
    · simp
    · simpa using h3 e he hb

theorem regI_front {K : Env → Heap → Prop} {j : Nat} {oj : Oper} (hoj : ops[j]? = some oj) : ∀ (rem : List Nat), rem.Pairwise (· < ·) → j ∈ rem →
    (∀ i ∈ rem, ∀ oi, ops[i]? = some oi → i < j → oi.apart ops oj = true ∧ pairOK (cls P oi.op) (cls P oj.op) = true) →
    ∀ env h, regI P ops K rem env h → regI P ops K (j :: rem.filter (· != j)) env h
  | [], _, hm, _, _, _, _ => by simp at hm
  | i :: r, hs, hm, hc, env, h, ⟨oi, hoi, hst⟩ => by
    have hs' := List.pairwise_cons.1 hs
    by_cases hij : i = j
    · subst hij
      have : r.filter (· != i) = r := by
        rw [List.filter_eq_self]
        intro k hk
        have := hs'.1 k hk
        simp; omega
      simp only [List.filter_cons, bne_self_eq_false, Bool.false_eq_true, if_false, this]
      exact ⟨oi, hoi, hst⟩
    · have hm' : j ∈ r := by simpa [Ne.symm hij] using hm
      have hlt := hs'.1 j hm'
      have ih := regI_front (K := K) hoj r hs'.2 hm' (fun k hk => hc k (by simp [hk]))
      obtain ⟨c1, c2⟩ := hc i (by simp) oi hoi hlt
      have hst2 : stepW P ops oi (stepW P ops oj (regI P ops K (r.filter (· != j)))) env h := by
        refine stepW_mono (fun env h hr => ?_) hst
        obtain ⟨o, ho, hr⟩ := ih env h hr
        rw [hoj] at ho
        simp only [Option.some.injEq] at ho; subst ho
        exact hr
      have hsw := swap c1 c2 hst2
      have hf : (i :: r).filter (· != j) = i :: r.filter (· != j) := by simp [hij]
      rw [hf]
      exact ⟨oj, hoj, stepW_mono (fun env h hr => ⟨oi, hoi, hr⟩) hsw⟩

def unl (ops : Array Oper) (listed : Array Bool) : List Nat := (List.range ops.size).filter fun i => !listed.getD i true

theorem lin_ok {M : Array Nat} {K : Env → Heap → Prop} (hall : ∀ j oj, ops[j]? = some oj → (∀ e ∈ oj.after, Region.binds .any e = true → e.on < j) ∧ ∀ i oi, ops[i]? = some oi → i < j → pairChk P ops M oi oj i j = true) :
    ∀ (fuel t : Nat) (listed : Array Bool), listed.size = ops.size → Closed ops listed → (unl ops listed).length ≤ fuel → ∀ env h, regI P ops K (unl ops listed) env h → regI P ops K (Region.linearise.go .any ops fuel t listed []) env h := by
  intro fuel
  induction fuel with
  | zero =>
    intro t listed hsz hcl hlen env h hr
    have : unl ops listed = [] := List.eq_nil_of_length_eq_zero (by omega)
    rw [this] at hr
    simpa [Region.linearise.go] using hr
  | succ fuel ih =>
    intro t listed hsz hcl hlen env h hr
    simp only [Region.linearise.go]
    change regI P ops K (match (Region.ready .any ops listed)[t % (Region.ready .any ops listed).length]? with
      | some i => Region.linearise.go .any ops fuel (t / (Region.ready .any ops listed).length) (listed.setIfInBounds i true) [i]
      | none => [].reverse) env h
    cases hi : (Region.ready .any ops listed)[t % (Region.ready .any ops listed).length]? with
    | none =>
      have hnil : Region.ready .any ops listed = [] := by
        cases hr' : Region.ready .any ops listed with
        | nil => rfl
        | cons x xs =>
          rw [hr'] at hi
          have hlt : t % (x :: xs).length < (x :: xs).length := Nat.mod_lt _ (by simp)
          rw [List.getElem?_eq_getElem hlt] at hi
          simp at hi
      have hun : unl ops listed = [] := by
        cases hu : unl ops listed with
        | nil => rfl
        | cons i r =>
          exfalso
          have hmem : i ∈ unl ops listed := by rw [hu]; simp
          have hleast : ∀ k, k < i → listed.getD k true = true := by
            intro k hk
            cases hb : listed.getD k true with
            | true => rfl
            | false =>
              have hmi := List.mem_filter.1 hmem
              have hkm : k ∈ unl ops listed := List.mem_filter.2 ⟨by have := List.mem_range.1 hmi.1; exact List.mem_range.2 (by omega), by rw [hb]; rfl⟩
              rw [hu] at hkm
              have hpw : (unl ops listed).Pairwise (· < ·) := List.Pairwise.filter _ List.pairwise_lt_range
              rw [hu] at hpw
              rcases List.mem_cons.1 hkm with e | e
              · omega
              · have := (List.pairwise_cons.1 hpw).1 k e; omega
          have hmi := List.mem_filter.1 hmem
          have hlt : i < ops.size := List.mem_range.1 hmi.1
          have : i ∈ Region.ready .any ops listed := by
            refine mem_rdy.2 ⟨by simpa using hmi.2, ops[i], by simp [hlt], fun e he hb => ?_⟩
            have hlt2 := (hall i ops[i] (by simp [hlt])).1 e he hb
            have := hleast e.on hlt2
            have hsz2 : e.on < listed.size := by omega
            simp only [Array.getD_eq_getD_getElem?, Array.getElem?_eq_getElem hsz2, Option.getD_some] at this ⊢
            exact this
          rw [hnil] at this
          simp at this
      rw [hun] at hr
      simpa using hr
    | some j =>
      simp only []
      rw [linearise_go_acc, List.reverse_singleton, List.singleton_append]
      have hjr := List.mem_of_getElem? hi
      obtain ⟨hjl, oj, hoj, hje⟩ := mem_rdy.1 hjr
      have hjlt : j < ops.size := by
        rcases Nat.lt_or_ge j ops.size with h' | h'
        · exact h'
        · simp [Array.getElem?_eq_none h'] at hoj
      have hmem : j ∈ unl ops listed := List.mem_filter.2 ⟨List.mem_range.2 hjlt, by rw [hjl]; rfl⟩
      have hpw : (unl ops listed).Pairwise (· < ·) := List.Pairwise.filter _ List.pairwise_lt_range
      have hfr := regI_front (K := K) hoj (unl ops listed) hpw hmem (fun i hi oi hoi hlt => by
        have hp := (hall j oj hoj).2 i oi hoi hlt
        have hil : listed.getD i true = false := by simpa using (List.mem_filter.1 hi).2
        cases hb : bitOf M j i with
        | true =>
          exfalso
          have := pre_listed hall hcl j oj i oi hoj hoi hlt hb hje
          have hsz2 : i < listed.size := by omega
          simp only [Array.getD_eq_getD_getElem?, Array.getElem?_eq_getElem hsz2, Option.getD_some] at this hil
          rw [this] at hil; simp at hil
        | false =>
          simp only [pairChk, hb, Bool.false_eq_true, if_false, Bool.and_eq_true] at hp
          exact hp) env h hr
      obtain ⟨o, ho, hst⟩ := hfr
      have hun : (unl ops listed).filter (· != j) = unl ops (listed.setIfInBounds j true) := by
        unfold unl
        rw [List.filter_filter]
        apply List.filter_congr
        intro k hk
        have hklt : k < listed.size := by have := List.mem_range.1 hk; omega
        by_cases e : k = j
        · subst e
          simp [Array.getD_eq_getD_getElem?, Array.getElem?_setIfInBounds_self_of_lt hklt]
        · have e' : j ≠ k := fun h => e h.symm
          simp [Array.getD_eq_getD_getElem?, Array.getElem?_setIfInBounds_ne e', e]
      refine ⟨o, ho, stepW_mono (fun env h hr => ?_) hst⟩
      rw [hun] at hr
      refine ih _ (listed.setIfInBounds j true) (by simp [hsz]) ?_ ?_ env h hr
      · intro k ok hok hkl e he hb
        by_cases hkj : k = j
        · subst hkj
          rw [hoj] at hok
          simp only [Option.some.injEq] at hok; subst hok
          have h1 := hje e he hb
          by_cases hej : e.on = k
          · have := (hall k oj hoj).1 e he hb; omega
          · have hej' : k ≠ e.on := fun h => hej h.symm
            simpa [Array.getD_eq_getD_getElem?, Array.getElem?_setIfInBounds_ne hej'] using h1
        · have hkj' : j ≠ k := fun h => hkj h.symm
          have hkl' : listed.getD k false = true := by simpa [Array.getD_eq_getD_getElem?, Array.getElem?_setIfInBounds_ne hkj'] using hkl
          have h1 := hcl k ok hok hkl' e he hb
          by_cases hej : e.on = j
          · rw [hej]
            simp [Array.getD_eq_getD_getElem?, Array.getElem?_setIfInBounds_self_of_lt (show j < listed.size by omega)]
          · have hej' : j ≠ e.on := fun h => hej h.symm
            simpa [Array.getD_eq_getD_getElem?, Array.getElem?_setIfInBounds_ne hej'] using h1
      · rw [← hun]
        have : ((unl ops listed).filter (· != j)).length < (unl ops listed).length := by
          rcases Nat.lt_or_ge ((unl ops listed).filter (· != j)).length (unl ops listed).length with h' | h'
          · exact h'
          · exfalso
            have heq := List.length_filter_eq_length_iff.1 (Nat.le_antisymm (List.length_filter_le _ _) h') j hmem
            simp at heq
        omega
end draws

/-! ### code -/
/-- Whatever frame shows env, whatever the count of draws: the code ends in Q. -/
def lift (w0 : World) (n : Nat) (Q : Exit → Env → Heap → Prop) : Exit → Act → World → Prop :=
  fun e a w => ∃ env h d, Sees n env a ∧ w = wd w0 h d ∧ Q e env h

def W (P : Program) (n : Nat) (c : Code) (Q : Exit → Env → Heap → Prop) (env : Env) (h : Heap) : Prop :=
  ∀ (w0 : World) (d : Nat) (a : Act), Sees n env a → c.wp P (lift w0 n Q) a (wd w0 h d)

def thenQ (K : Env → Heap → Prop) (Q : Exit → Env → Heap → Prop) : Exit → Env → Heap → Prop
  | .normal, env, h => K env h
  | e, env, h => Q e env h

def blockQ (id : Nat) (Q : Exit → Env → Heap → Prop) : Exit → Env → Heap → Prop
  | .exit i, env, h => if i = id then Q .normal env h else Q (.exit i) env h
  | e, env, h => Q e env h

section code
variable {P : Program} {n : Nat} {Q : Exit → Env → Heap → Prop} {env : Env} {h : Heap}

theorem W_mono {c : Code} {Q' : Exit → Env → Heap → Prop} (hq : ∀ e env h, Q e env h → Q' e env h) (hw : W P n c Q env h) : W P n c Q' env h :=
  fun w0 d a hs => wp_mono (hw w0 d a hs) fun e a w ⟨env, h, d, h1, h2, h3⟩ => ⟨env, h, d, h1, h2, hq _ _ _ h3⟩

theorem W_skip (hq : Q .normal env h) : W P n .skip Q env h := fun w0 d a hs => wp_skip ⟨env, h, d, hs, rfl, hq⟩
theorem W_ret (hq : Q .ret env h) : W P n .ret Q env h := fun w0 d a hs => wp_ret ⟨env, h, d, hs, rfl, hq⟩
theorem W_exit {id : Nat} (hq : Q (.exit id) env h) : W P n (.exit id) Q env h := fun w0 d a hs => wp_exit ⟨env, h, d, hs, rfl, hq⟩

theorem W_seq {x y : Code} (hw : W P n x (thenQ (W P n y Q) Q) env h) : W P n (.seq x y) Q env h := by
  intro w0 d a hs
  refine wp_seq (wp_mono (hw w0 d a hs) fun e a w ⟨env, h, d, h1, h2, h3⟩ => ?_)
  cases e with
  | normal => subst h2; exact h3 w0 d a h1
  | _ => exact ⟨env, h, d, h1, h2, h3⟩

/-- the code behind lies behind a letter -/
theorem W_seqK {x y : Code} (hw : ∀ K : Env → Heap → Prop, (∀ env h, W P n y Q env h → K env h) → W P n x (thenQ K Q) env h) : W P n (.seq x y) Q env h := W_seq (hw _ fun _ _ h => h)

theorem W_cond {c : Operand} {x y : Code} {t : Bool} (hc : ev env c = some (.bool t)) (h1 : t = true → W P n x Q env h) (h2 : t = false → W P n y Q env h) : W P n (.cond c x y) Q env h := by
  intro w0 d a hs
  refine wp_cond (hs.eval hc) ?_
  cases t with
  | true => exact h1 rfl w0 d a hs
  | false => exact h2 rfl w0 d a hs

theorem W_condp {c : Operand} {x y : Code} {p : Prop} [Decidable p] (hc : ev env c = some (.bool (decide p))) (h1 : p → W P n x Q env h) (h2 : ¬ p → W P n y Q env h) : W P n (.cond c x y) Q env h :=
  W_cond hc (fun e => h1 (of_decide_eq_true e)) (fun e => h2 (of_decide_eq_false e))

theorem W_condt {c : Operand} {x y : Code} (hc : ev env c = some (.bool true)) (h1 : W P n x Q env h) : W P n (.cond c x y) Q env h := W_cond hc (fun _ => h1) (fun e => by cases e)
theorem W_condf {c : Operand} {x y : Code} (hc : ev env c = some (.bool false)) (h1 : W P n y Q env h) : W P n (.cond c x y) Q env h := W_cond hc (fun e => by cases e) (fun _ => h1)

theorem W_block {id : Nat} {c : Code} (hw : W P n c (blockQ id Q) env h) : W P n (.block id c) Q env h := by
  intro w0 d a hs
  refine wp_block (wp_mono (hw w0 d a hs) fun e a w ⟨env, h, d, h1, h2, h3⟩ => ?_)
  cases e with
  | exit i =>
    simp only [blockQ] at h3
    simp only [Exit.inBlock]
    split
    · rename_i e; rw [if_pos e] at h3; exact ⟨env, h, d, h1, h2, h3⟩
    · rename_i e; rw [if_neg e] at h3; exact ⟨env, h, d, h1, h2, h3⟩
  | _ => exact ⟨env, h, d, h1, h2, h3⟩

theorem W_loop {c : Code} (I : Nat → Env → Heap → Prop) (m : Nat) (h0 : I m env h)
    (round : ∀ m env h, I m env h → W P n c (thenQ (fun env' h' => ∃ m', m' < m ∧ I m' env' h') Q) env h) : W P n (.loop c) Q env h := by
  intro w0 d a hs b k cs
  have key : ∀ m env h, I m env h → ∀ (d : Nat) (a : Act), Sees n env a →
      ∃ e a' w', lift w0 n Q e a' w' ∧ Arrives P (lone (b.at a (.code c :: .inLoop c :: k)) cs (wd w0 h d)) b k cs e a' w' := by
    intro m
    induction m using Nat.strongRecOn with
    | _ m ih =>
      intro env h hI d a hs
      obtain ⟨e, a1, w1, ⟨env1, h1, d1, s1, e1, q1⟩, arr⟩ := round m env h hI w0 d a hs b (.inLoop c :: k) cs
      subst e1
      cases e with
      | normal =>
        obtain ⟨m', hlt, hI'⟩ := q1
        obtain ⟨e2, a2, w2, q2, arr2⟩ := ih m' hlt env1 h1 hI' d1 a1 s1
        exact ⟨e2, a2, w2, q2, .of_steps (Steps.trans arr (.one step_inLoop)) arr2⟩
      | exit id => exact ⟨_, a1, _, ⟨env1, h1, d1, s1, rfl, q1⟩, .pass (x := .inLoop c) rfl (fun _ _ => .inl (by simp)) arr⟩
      | goto l => exact ⟨_, a1, _, ⟨env1, h1, d1, s1, rfl, q1⟩, .pass (x := .inLoop c) rfl (fun _ _ => .inl (by simp)) arr⟩
      | ret => exact ⟨_, a1, _, ⟨env1, h1, d1, s1, rfl, q1⟩, .pass (x := .inLoop c) rfl (fun _ _ => .inl (by simp)) arr⟩
      | panic ch => exact ⟨_, a1, _, ⟨env1, h1, d1, s1, rfl, q1⟩, .pass (x := .inLoop c) rfl (fun _ _ => .inl (by simp)) arr⟩
      | outgrown => exact ⟨_, a1, _, ⟨env1, h1, d1, s1, rfl, q1⟩, .pass (x := .inLoop c) rfl (fun _ _ => .inl (by simp)) arr⟩
  obtain ⟨e, a', w', q, arr⟩ := key m env h h0 d a hs
  exact ⟨e, a', w', q, .of_steps (.one step_loop) arr⟩

/-- fewer slots known -/
theorem W_less {c : Code} {env' : Env} (hl : ∀ t v, env' t = some v → env t = some v) (hw : W P n c Q env' h) : W P n c Q env h :=
  fun w0 d a hs => hw w0 d a ⟨hs.size, hs.defers, fun t v e => hs.slot t v (hl t v e)⟩

theorem W_region {id : Nat} {ops : Array Oper} {draw : Bool} (hm : P.follows .mixedOrders = true) (ok : okReg P n ops draw = true) (hr : regL P ops (Q .normal) ops.toList env h) : W P n (.region id ops draw) Q env h := by
  intro w0 d a hs
  simp only [okReg, Bool.and_eq_true, List.all_eq_true] at ok
  have hd : ∀ o ∈ ops.toList, ∀ d, o.dst = some d → d < n := fun o ho d hd => by
    have := ok.1 o ho
    simpa [hd] using this
  have hr' := regL_regI (P := P) (ops := ops) (K := Q .normal) ops.toList 0 (by simp) env h hr
  rw [← List.range_eq_range', Array.length_toList] at hr'
  cases draw with
  | false => exact wp_region (regI_sound hd (fun env h a d s hk => ⟨env, h, d, s, rfl, hk⟩) _ env h a d hs hr')
  | true =>
    simp only [Bool.not_true, Bool.false_or] at ok
    refine wp_region_draw fun t => ?_
    simp only [Region.schedule, hm, Bool.true_or, if_true]
    have hall : ∀ j oj, ops[j]? = some oj → (∀ e ∈ oj.after, Region.binds .any e = true → e.on < j) ∧ ∀ i oi, ops[i]? = some oi → i < j → pairChk P ops (Region.before ops) oi oj i j = true := fun j oj hj => by
      have := lexChk_spec (P := P) (ops := ops) ops.toList 0 ok.2 j oj (by simpa using hj)
      simpa using this
    have hun : unl ops (Array.replicate ops.size false) = List.range ops.size := by
      unfold unl
      rw [List.filter_eq_self]
      intro i hi
      have := List.mem_range.1 hi
      simp [Array.getD_eq_getD_getElem?, this]
    have hl := lin_ok (K := Q .normal) hall ops.size t (Array.replicate ops.size false) (by simp) (fun k o hk hkl => by
      exfalso
      simp only [Array.getD_eq_getD_getElem?, Array.getElem?_replicate] at hkl
      split at hkl <;> simp at hkl) (by rw [hun]; simp) env h (by rw [hun]; exact hr')
    have := regI_sound (Q := lift w0 n Q) (w0 := w0) hd (fun env h a d s hk => ⟨env, h, d, s, rfl, hk⟩) _ env h a (d + 1) hs hl
    exact this
end code

/-! ### a function -/
def resV (P : Program) (h : Heap) (env : Env) : List ResultVar → Option (List Value)
  | [] => some []
  | .tmp t :: r => match env t, resV P h env r with
    | some v, some vs => some (v :: vs)
    | _, _ => none
  | .cell t ty :: r => match env t with
    | some (.pointer (some a)) => match loadV P h ty a, resV P h env r with
      | some v, some vs => some (v :: vs)
      | _, _ => none
    | _ => none

def tupV : List Value → Value
  | [v] => v
  | vs => .tuple vs.toArray

def retQ (P : Program) (fn : Func) (R : Value → Heap → Prop) : Exit → Env → Heap → Prop
  | .normal, env, h | .ret, env, h => ∃ vs, resV P h env fn.results.toList = some vs ∧ R (tupV vs) h
  | _, _, _ => False

section func
variable {P : Program}

theorem run_resV (w0 : World) (h : Heap) (d : Nat) {n : Nat} {env : Env} {a : Act} (hs : Sees n env a) (F : ResultVar → Sem Value) (hF1 : ∀ t, F (.tmp t) = pure (a.tmps.getD t undef))
    (hF2 : ∀ c t, F (.cell c t) = (do loadVar t (← asAddr (a.tmps.getD c undef)))) : ∀ (rs : List ResultVar) (vs : List Value), resV P h env rs = some vs → ∀ acc : List Value,
    (List.mapM.loop (m := Sem) F rs acc).run P (wd w0 h d) = .ok (acc.reverse ++ vs) (wd w0 h d)
  | [], vs, hv, acc => by simp [resV] at hv; subst hv; simp [List.mapM.loop]
  | .tmp t :: r, vs, hv, acc => by
    simp only [resV] at hv
    split at hv
    · rename_i v vs' h1 h2
      simp only [Option.some.injEq] at hv; subst hv
      have hg : a.tmps.getD t undef = v := by simp [hs.slot t v h1]
      have := run_resV w0 h d hs F hF1 hF2 r vs' h2 (v :: acc)
      simp only [List.mapM.loop, Sem.run_bind, hF1, Sem.run_pure, Result.andThen_ok, hg, this]
      simp
    · simp at hv
  | .cell t ty :: r, vs, hv, acc => by
    simp only [resV] at hv
    split at hv
    · rename_i ad h1
      split at hv
      · rename_i v vs' h2 h3
        simp only [Option.some.injEq] at hv; subst hv
        have hg : a.tmps.getD t undef = .pointer (some ad) := by simp [hs.slot t _ h1]
        have := run_resV w0 h d hs F hF1 hF2 r vs' h3 (v :: acc)
        simp only [List.mapM.loop, Sem.run_bind, hF2, Sem.run_pure, Result.andThen_ok, hg, asAddr, run_loadV w0 h d ty ad v h2, this]
        simp
      · simp at hv
    · simp at hv

theorem run_results (w0 : World) (h : Heap) (d : Nat) {n : Nat} {env : Env} {a : Act} (hs : Sees n env a) (fn : Func) (vs : List Value) (hv : resV P h env fn.results.toList = some vs) :
    (results fn a.tmps).run P (wd w0 h d) = .ok (tupV vs) (wd w0 h d) := by
  simp only [results, Sem.run_bind]
  rw [Array.mapM_eq_mapM_toList]
  simp only [List.mapM, Sem.run_map]
  rw [run_resV (P := P) w0 h d hs _ (fun _ => rfl) (fun _ _ => rfl) fn.results.toList vs hv []]
  simp only [List.reverse_nil, List.nil_append, Result.andThen_ok, Sem.run_pure]
  match vs with
  | [] => rfl
  | [v] => rfl
  | v :: u :: r => simp [tupV]

/-- the slots' first values -/
def argE (args : List Value) : Env := fun t => args[t]?

theorem FC_of_W {f : FuncId} {fn : Func} {c : Code} {args : List Value} {h : Heap} {R : Value → Heap → Prop} (hf : P.funcs[f]? = some fn) (hb : fn.body = some c) (hn : args.length ≤ fn.ntmps)
    (hw : W P fn.ntmps c (retQ P fn R) (argE args) h) : FC P f args.toArray h R := by
  intro w0 d
  refine calls_of_wp hf hb ?_
  have hs : Sees fn.ntmps (argE args) { tmps := args.toArray ++ Array.replicate (fn.ntmps - args.toArray.size) undef, defers := [] } := by
    refine ⟨by simp; omega, rfl, fun t v ht => ?_⟩
    simp only [argE] at ht
    have hlt : t < args.length := by
      rcases Nat.lt_or_ge t args.length with h' | h'
      · exact h'
      · simp [List.getElem?_eq_none h'] at ht
    rw [Array.getElem?_append_left (by simpa using hlt)]
    simpa using ht
  refine wp_mono (hw w0 d _ hs) fun e a w ⟨env, h', d', s, e1, q⟩ => ?_
  subst e1
  cases e with
  | normal =>
    obtain ⟨vs, hv, hr⟩ := q
    exact ⟨s.defers, tupV vs, run_results w0 h' d' s fn vs hv, tupV vs, h', d', rfl, rfl, hr⟩
  | ret =>
    obtain ⟨vs, hv, hr⟩ := q
    exact ⟨s.defers, tupV vs, run_results w0 h' d' s fn vs hv, tupV vs, h', d', rfl, rfl, hr⟩
  | _ => exact q.elim
end func
end Go.Eng
