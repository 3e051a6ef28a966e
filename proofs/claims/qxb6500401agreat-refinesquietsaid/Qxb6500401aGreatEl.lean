import Derived.Test.Qxb6500401aGreatEk
set_option linter.unusedVariables false
set_option linter.unusedSimpArgs false
namespace Go.Eng
/-- the old blocks are as they were -/
def Grows (h h' : Heap) : Prop := h.size ≤ h'.size ∧ ∀ b, b < h.size → h'[b]? = h[b]?
theorem Grows.refl (h : Heap) : Grows h h := ⟨Nat.le_refl _, fun _ _ => rfl⟩
theorem Grows.of_ext {h h' : Heap} (he : Ext (fun _ => False) h h') : Grows h h' := ⟨he.1, fun b hb => he.2 b hb (fun f => f)⟩
theorem cellH_grow {h h' : Heap} {a : Addr} {v : Value} (hg : Grows h h') (hc : cellH h a = some v) : cellH h' a = some v := by
  unfold cellH at hc ⊢
  have : a.block < h.size := by
    rcases Nat.lt_or_ge a.block h.size with x | x
    · exact x
    · simp [Array.getElem?_eq_none x] at hc
  rw [hg.2 _ this]; exact hc
theorem cellsH_grow {h h' : Heap} {a : Addr} (hg : Grows h h') : ∀ (n i : Nat) (l : List Value), cellsH h a i n = some l → cellsH h' a i n = some l
  | 0, i, l, hl => hl
  | n + 1, i, l, hl => by
    simp only [cellsH] at hl ⊢
    split at hl
    · rename_i v hv
      rw [cellH_grow hg hv]
      simp only [Option.map_eq_some_iff] at hl ⊢
      obtain ⟨l', h1, h2⟩ := hl
      exact ⟨l', cellsH_grow hg n (i + 1) l' h1, h2⟩
    · simp at hl
section calm
variable {P : Program} {ops : Array Oper}
/-- only loads among the operations of kind 1 -/
def isLd : Op → Bool
  | .load _ _ => true
  | _ => false
theorem qV_grow {env : Env} {h h' : Heap} {op : Op} {v : Value} (hg : Grows h h') (hc : cls P op = 0 ∨ isLd op = true) (hq : qV P env h op = some v) : qV P env h' op = some v := by
  rcases hc with hc | hc
  · rw [qV_pure h' h op hc]; exact hq
  · cases op with
    | load t x =>
      simp only [qV] at hq ⊢
      split at hq
      · simp only [loadV] at hq ⊢
        split at hq
        · exact cellH_grow hg hq
        · simp only [Option.map_eq_some_iff] at hq ⊢
          obtain ⟨l, h1, h2⟩ := hq
          exact ⟨l, cellsH_grow hg _ _ l h1, h2⟩
        · simp at hq
      · simp at hq
    | _ => cases hc
theorem isLd_cls {op : Op} (h : isLd op = true) : cls P op = 1 := by
  cases op with
  | load t x => rfl
  | _ => cases h
theorem stepW_q {o : Oper} {A C : Env → Heap → Prop} {env : Env} {h : Heap} (hq : cls P o.op = 0 ∨ cls P o.op = 1) (hk : ∀ env', A env' h → C env' h) (hw : stepW P ops o A env h) : stepW P ops o C env h := by
  rcases hw with ⟨h1, h2⟩ | ⟨h1, h2⟩
  · rw [opW_quiet hq] at h2
    obtain ⟨v, h3, h4⟩ := h2
    exact .inl ⟨h1, by rw [opW_quiet hq]; exact ⟨v, h3, hk _ h4⟩⟩
  · exact .inr ⟨h1, hk _ h2⟩
/-- a quiet operation, then the calm one: or the other way round -/
theorem swapM1 {oi oj : Oper} {K : Env → Heap → Prop} {env : Env} {h : Heap} (hap : oi.apart ops oj = true) (hqi : cls P oi.op = 0 ∨ isLd oi.op = true)
    (hw : stepW P ops oi (fun e h1 => stepW P ops oj (fun e' h' => Grows h1 h' ∧ K e' h') e h1) env h) : stepW P ops oj (fun e h1 => Grows h h1 ∧ stepW P ops oi K e h1) env h := by
  have hq : cls P oi.op = 0 ∨ cls P oi.op = 1 := (Or.elim hqi .inl (fun q => .inr (isLd_cls q)))
  obtain ⟨a1, a2, a3⟩ := Oper.apart_spec hap
  have wj : ∀ v, wantE ops (bnd oi.dst v env) oj = wantE ops env oj := fun v => want_bnd a1
  have wi : ∀ v, wantE ops (bnd oj.dst v env) oi = wantE ops env oi := fun v => want_bnd a3
  have ej : ∀ v, ∀ x ∈ oj.op.operands.toList, ev (bnd oi.dst v env) x = ev env x := fun v x hx => ev_bnd fun d hd => looks_op (a1 d hd) x hx
  have ei : ∀ v, ∀ x ∈ oi.op.operands.toList, ev (bnd oj.dst v env) x = ev env x := fun v x hx => ev_bnd fun d hd => looks_op (a3 d hd) x hx
  have com : ∀ v u, bnd oj.dst u (bnd oi.dst v env) = bnd oi.dst v (bnd oj.dst u env) := fun v u => bnd_comm v u a2
  rcases hw with ⟨hwi, hi⟩ | ⟨hwi, hi⟩
  · rw [opW_quiet hq] at hi
    obtain ⟨vi, hqv, hj⟩ := hi
    rcases hj with ⟨hwj, hj⟩ | ⟨hwj, hg, hj⟩
    · rw [wj] at hwj
      rw [opW_env h _ oj.op (ej vi)] at hj
      refine .inl ⟨hwj, opW_mono ?_ hj⟩
      rintro v h1 ⟨hg, hk⟩
      refine ⟨hg, .inl ⟨by rw [wi]; exact hwi, ?_⟩⟩
      rw [opW_quiet hq]
      refine ⟨vi, by rw [qV_env h1 oi.op (ei v)]; exact qV_grow hg hqi hqv, ?_⟩
      rw [← com]; exact hk
    · rw [wj] at hwj
      refine .inr ⟨hwj, Grows.refl _, .inl ⟨by rw [wi]; exact hwi, ?_⟩⟩
      rw [opW_quiet hq]
      refine ⟨vi, by rw [qV_env h oi.op (ei _)]; exact hqv, ?_⟩
      rw [← com]; exact hj
  · rcases hi with ⟨hwj, hj⟩ | ⟨hwj, hg, hj⟩
    · rw [wj] at hwj
      rw [opW_env h _ oj.op (ej undef)] at hj
      refine .inl ⟨hwj, opW_mono ?_ hj⟩
      rintro v h1 ⟨hg, hk⟩
      refine ⟨hg, .inr ⟨by rw [wi]; exact hwi, ?_⟩⟩
      rw [← com]; exact hk
    · rw [wj] at hwj
      refine .inr ⟨hwj, Grows.refl _, .inr ⟨by rw [wi]; exact hwi, ?_⟩⟩
      rw [← com]; exact hj
theorem swapM2 {oi oj : Oper} {K : Env → Heap → Prop} {env : Env} {h : Heap} (hap : oi.apart ops oj = true) (hj : cls P oj.op = 0)
    (hw : stepW P ops oi (fun e h1 => Grows h h1 ∧ stepW P ops oj K e h1) env h) : stepW P ops oj (fun e h1 => stepW P ops oi (fun e' h' => Grows h1 h' ∧ K e' h') e h1) env h := by
  have h1 : stepW P ops oi (stepW P ops oj (fun e h' => Grows h h' ∧ K e h')) env h := stepW_mono (fun e h1 ⟨hg, hs⟩ => stepW_q (.inl hj) (fun e' hk => ⟨hg, hk⟩) hs) hw
  have h2 := swap hap (by simp [pairOK, hj]) h1
  exact stepW_q (.inl hj) (fun e' hk => hk) h2
/-- the region's steps; the one at c is calm -/
def regM (P : Program) (ops : Array Oper) (c : Nat) (K : Env → Heap → Prop) : List Nat → Env → Heap → Prop
  | [], env, h => K env h
  | i :: r, env, h => ∃ o, ops[i]? = some o ∧ (if i = c then stepW P ops o (fun e h' => Grows h h' ∧ regM P ops c K r e h') env h else stepW P ops o (regM P ops c K r) env h)
theorem regM_regI {c : Nat} {K : Env → Heap → Prop} : ∀ (l : List Nat) (env : Env) (h : Heap), regM P ops c K l env h → regI P ops K l env h
  | [], env, h, hr => hr
  | i :: r, env, h, ⟨o, ho, hs⟩ => by
    refine ⟨o, ho, ?_⟩
    split at hs
    · exact stepW_mono (fun e h' hk => regM_regI r e h' hk.2) hs
    · exact stepW_mono (fun e h' hk => regM_regI r e h' hk) hs
def PokM (P : Program) (c : Nat) (oi oj : Oper) (j : Nat) : Bool := pairOK (cls P oi.op) (cls P oj.op) || ((cls P oi.op == 0 || isLd oi.op) && j == c)
theorem regM_front {c : Nat} {rk : Nat → Nat} {K : Env → Heap → Prop} {j : Nat} {oj oc : Oper} (hoj : ops[j]? = some oj) (hoc : ops[c]? = some oc) (hcc : cls P oc.op = 3) : ∀ (rem : List Nat), rem.Pairwise (fun a b => rk a < rk b) → j ∈ rem →
    (∀ i ∈ rem, ∀ oi, ops[i]? = some oi → rk i < rk j → oi.apart ops oj = true ∧ PokM P c oi oj j = true) →
    ∀ env h, regM P ops c K rem env h → regM P ops c K (j :: rem.filter (· != j)) env h
  | [], _, hm, _, _, _, _ => by simp at hm
  | i :: r, hs, hm, hc, env, h, ⟨oi, hoi, hst⟩ => by
    have hs' := List.pairwise_cons.1 hs
    by_cases hij : i = j
    · subst hij
      have : r.filter (· != i) = r := by
        rw [List.filter_eq_self]
        intro k hk
        have := hs'.1 k hk
        simp; intro e; subst e; omega
      simp only [List.filter_cons, bne_self_eq_false, Bool.false_eq_true, if_false, this]
      exact ⟨oi, hoi, hst⟩
    · have hm' : j ∈ r := by simpa [Ne.symm hij] using hm
      have hlt := hs'.1 j hm'
      have ih := regM_front (K := K) hoj hoc hcc r hs'.2 hm' (fun k hk => hc k (by simp [hk]))
      obtain ⟨c1, c2⟩ := hc i (by simp) oi hoi hlt
      have hf : (i :: r).filter (· != j) = i :: r.filter (· != j) := by simp [hij]
      rw [hf]
      have un : ∀ env h, regM P ops c K (j :: r.filter (· != j)) env h → (if j = c then stepW P ops oj (fun e h' => Grows h h' ∧ regM P ops c K (r.filter (· != j)) e h') env h else stepW P ops oj (regM P ops c K (r.filter (· != j))) env h) := fun env h hr => by
        obtain ⟨o, ho, hr⟩ := hr
        rw [hoj] at ho; simp only [Option.some.injEq] at ho; subst ho; exact hr
      refine ⟨oj, hoj, ?_⟩
      simp only [PokM, Bool.or_eq_true, Bool.and_eq_true, beq_iff_eq] at c2
      by_cases hic : i = c
      · subst hic
        rw [hoc] at hoi; simp only [Option.some.injEq] at hoi; subst hoi
        have hjc : j ≠ i := fun e => hij e.symm
        rw [if_neg hjc]
        rw [if_pos rfl] at hst
        have hj0 : cls P oj.op = 0 := by
          rcases c2 with c2 | c2
          · simp only [pairOK, hcc, Bool.or_eq_true, beq_iff_eq, Bool.and_eq_true] at c2
            rcases c2 with (c2 | c2) | c2
            · omega
            · exact c2
            · omega
          · exact absurd c2.2 hjc
        have hst2 : stepW P ops oc (fun e h1 => Grows h h1 ∧ stepW P ops oj (regM P ops i K (r.filter (· != j))) e h1) env h := stepW_mono (fun e h1 ⟨hg, hk⟩ => ⟨hg, by have := un e h1 (ih e h1 hk); rw [if_neg hjc] at this; exact this⟩) hst
        refine stepW_mono (fun e h1 hk => ⟨oc, hoc, ?_⟩) (swapM2 c1 hj0 hst2)
        rw [if_pos rfl]; exact hk
      · rw [if_neg hic] at hst
        by_cases hjc : j = c
        · subst hjc
          rw [hoj] at hoc; simp only [Option.some.injEq] at hoc; subst hoc
          rw [if_pos rfl]
          have hqi : cls P oi.op = 0 ∨ isLd oi.op = true := by
            rcases c2 with c2 | c2
            · simp only [pairOK, hcc, Bool.or_eq_true, beq_iff_eq, Bool.and_eq_true] at c2
              rcases c2 with (c2 | c2) | c2
              · exact .inl c2
              · omega
              · omega
            · exact c2.1
          have hst2 : stepW P ops oi (fun e h1 => stepW P ops oj (fun e' h' => Grows h1 h' ∧ regM P ops j K (r.filter (· != j)) e' h') e h1) env h := stepW_mono (fun e h1 hk => by have := un e h1 (ih e h1 hk); rw [if_pos rfl] at this; exact this) hst
          refine stepW_mono (fun e h1 ⟨hg, hk⟩ => ⟨hg, oi, hoi, ?_⟩) (swapM1 c1 hqi hst2)
          rw [if_neg hic]; exact hk
        · rw [if_neg hjc]
          have hp : pairOK (cls P oi.op) (cls P oj.op) = true := by
            rcases c2 with c2 | c2
            · exact c2
            · exact absurd c2.2 hjc
          have hst2 : stepW P ops oi (stepW P ops oj (regM P ops c K (r.filter (· != j)))) env h := stepW_mono (fun e h1 hk => by have := un e h1 (ih e h1 hk); rw [if_neg hjc] at this; exact this) hst
          refine stepW_mono (fun e h1 hk => ⟨oi, hoi, ?_⟩) (swap c1 hp hst2)
          rw [if_neg hic]; exact hk
def pairChkM (P : Program) (ops : Array Oper) (M : Array Nat) (rk : Nat → Nat) (c : Nat) (oi oj : Oper) (i j : Nat) : Bool :=
  if bitOf M j i then oj.after.any fun e => Region.binds .any e && (e.on == i || (rk i < rk e.on && bitOf M e.on i))
  else oi.apart ops oj && PokM P c oi oj j
def HallM (P : Program) (ops : Array Oper) (M : Array Nat) (rk : Nat → Nat) (c : Nat) : Prop := ∀ j oj, ops[j]? = some oj → (∀ e ∈ oj.after, Region.binds .any e = true → e.on < ops.size ∧ rk e.on < rk j) ∧ ∀ i oi, ops[i]? = some oi → rk i < rk j → pairChkM P ops M rk c oi oj i j = true
theorem pre_listedM {M : Array Nat} {rk : Nat → Nat} {c : Nat} {listed : Array Bool} (hall : HallM P ops M rk c) (hcl : Closed ops listed) :
    ∀ (m j : Nat) (oj : Oper) (i : Nat) (oi : Oper), rk j = m → ops[j]? = some oj → ops[i]? = some oi → rk i < rk j → bitOf M j i = true → (∀ e ∈ oj.after, Region.binds .any e = true → listed.getD e.on false = true) → listed.getD i false = true := by
  intro m
  induction m using Nat.strongRecOn with
  | _ m ih =>
    intro j oj i oi hm hj hi hlt hbit hre
    have hp := (hall j oj hj).2 i oi hi hlt
    simp only [pairChkM, hbit, if_true, Array.any_eq_true'] at hp
    obtain ⟨e, he, hp⟩ := hp
    simp only [Bool.and_eq_true, Bool.or_eq_true, beq_iff_eq, decide_eq_true_eq] at hp
    obtain ⟨hb, hp⟩ := hp
    have hle := (hall j oj hj).1 e he hb
    have hl := hre e he hb
    rcases hp with hp | ⟨hp1, hp2⟩
    · rw [← hp]; exact hl
    · exact ih (rk e.on) (by omega) e.on ops[e.on] i oi rfl (by simp [hle.1]) hi hp1 hp2 (hcl e.on ops[e.on] (by simp [hle.1]) hl)
def unlR (can : List Nat) (listed : Array Bool) : List Nat := can.filter fun i => !listed.getD i true
theorem lin_okM {M : Array Nat} {rk : Nat → Nat} {c : Nat} {can : List Nat} {oc : Oper} {K : Env → Heap → Prop} (hoc : ops[c]? = some oc) (hcc : cls P oc.op = 3) (hall : HallM P ops M rk c) (hpw0 : can.Pairwise (fun a b => rk a < rk b)) (hcan : ∀ i, i ∈ can ↔ i < ops.size) :
    ∀ (fuel t : Nat) (listed : Array Bool), listed.size = ops.size → Closed ops listed → (unlR can listed).length ≤ fuel → ∀ env h, regM P ops c K (unlR can listed) env h → regM P ops c K (Region.linearise.go .any ops fuel t listed []) env h := by
  intro fuel
  induction fuel with
  | zero =>
    intro t listed hsz hcl hlen env h hr
    have : unlR can listed = [] := List.eq_nil_of_length_eq_zero (by omega)
    rw [this] at hr
    simpa [Region.linearise.go] using hr
  | succ fuel ih =>
    intro t listed hsz hcl hlen env h hr
    simp only [Region.linearise.go]
    change regM P ops c K (match (Region.ready .any ops listed)[t % (Region.ready .any ops listed).length]? with
      | some i => Region.linearise.go .any ops fuel (t / (Region.ready .any ops listed).length) (listed.setIfInBounds i true) [i]
      | none => [].reverse) env h
    have hpw : (unlR can listed).Pairwise (fun a b => rk a < rk b) := List.Pairwise.filter _ hpw0
    cases hi : (Region.ready .any ops listed)[t % (Region.ready .any ops listed).length]? with
    | none =>
      have hnil : Region.ready .any ops listed = [] := by
        cases hr' : Region.ready .any ops listed with
        | nil => rfl
        | cons x xs =>
          rw [hr'] at hi
          have hlt : t % (x :: xs).length < (x :: xs).length := Nat.mod_lt _ (by simp)
          rw [List.getElem?_eq_getElem hlt] at hi
          simp at hi
      have hun : unlR can listed = [] := by
        cases hu : unlR can listed with
        | nil => rfl
        | cons i r =>
          exfalso
          have hmem : i ∈ unlR can listed := by rw [hu]; simp
          have hmi := List.mem_filter.1 hmem
          have hlt : i < ops.size := (hcan i).1 hmi.1
          have hleast : ∀ k, k < ops.size → rk k < rk i → listed.getD k true = true := by
            intro k hks hk
            cases hb : listed.getD k true with
            | true => rfl
            | false =>
              have hkm : k ∈ unlR can listed := List.mem_filter.2 ⟨(hcan k).2 hks, by rw [hb]; rfl⟩
              rw [hu] at hkm hpw
              rcases List.mem_cons.1 hkm with e | e
              · subst e; omega
              · have := (List.pairwise_cons.1 hpw).1 k e; omega
          have : i ∈ Region.ready .any ops listed := by
            refine mem_rdy.2 ⟨by simpa using hmi.2, ops[i], by simp [hlt], fun e he hb => ?_⟩
            have hlt2 := (hall i ops[i] (by simp [hlt])).1 e he hb
            have := hleast e.on hlt2.1 hlt2.2
            have hsz2 : e.on < listed.size := by omega
            simp only [Array.getD_eq_getD_getElem?, Array.getElem?_eq_getElem hsz2, Option.getD_some] at this ⊢
            exact this
          rw [hnil] at this
          simp at this
      rw [hun] at hr
      simpa using hr
    | some j =>
      simp only []
      rw [linearise_go_acc, List.reverse_singleton, List.singleton_append]
      have hjr := List.mem_of_getElem? hi
      obtain ⟨hjl, oj, hoj, hje⟩ := mem_rdy.1 hjr
      have hjlt : j < ops.size := by
        rcases Nat.lt_or_ge j ops.size with h' | h'
        · exact h'
        · simp [Array.getElem?_eq_none h'] at hoj
      have hmem : j ∈ unlR can listed := List.mem_filter.2 ⟨(hcan j).2 hjlt, by rw [hjl]; rfl⟩
      have hfr := regM_front (K := K) hoj hoc hcc (unlR can listed) hpw hmem (fun i hi oi hoi hlt => by
        have hp := (hall j oj hoj).2 i oi hoi hlt
        have hil : listed.getD i true = false := by simpa using (List.mem_filter.1 hi).2
        cases hb : bitOf M j i with
        | true =>
          exfalso
          have := pre_listedM hall hcl (rk j) j oj i oi rfl hoj hoi hlt hb hje
          have hsz2 : i < listed.size := by have := (hcan i).1 (List.mem_filter.1 hi).1; omega
          simp only [Array.getD_eq_getD_getElem?, Array.getElem?_eq_getElem hsz2, Option.getD_some] at this hil
          rw [this] at hil; simp at hil
        | false =>
          simp only [pairChkM, hb, Bool.false_eq_true, if_false, Bool.and_eq_true] at hp
          exact hp) env h hr
      obtain ⟨o, ho, hst⟩ := hfr
      have hun : (unlR can listed).filter (· != j) = unlR can (listed.setIfInBounds j true) := by
        unfold unlR
        rw [List.filter_filter]
        apply List.filter_congr
        intro k hk
        have hklt : k < listed.size := by have := (hcan k).1 hk; omega
        by_cases e : k = j
        · subst e
          simp [Array.getD_eq_getD_getElem?, Array.getElem?_setIfInBounds_self_of_lt hklt]
        · have e' : j ≠ k := fun h => e h.symm
          simp [Array.getD_eq_getD_getElem?, Array.getElem?_setIfInBounds_ne e', e]
      have hcl2 : Closed ops (listed.setIfInBounds j true) := by
        intro k ok hok hkl e he hb
        by_cases hkj : k = j
        · subst hkj
          rw [hoj] at hok
          simp only [Option.some.injEq] at hok; subst hok
          have h1 := hje e he hb
          by_cases hej : e.on = k
          · have := (hall k oj hoj).1 e he hb; rw [hej] at this; omega
          · have hej' : k ≠ e.on := fun h => hej h.symm
            simpa [Array.getD_eq_getD_getElem?, Array.getElem?_setIfInBounds_ne hej'] using h1
        · have hkj' : j ≠ k := fun h => hkj h.symm
          have hkl' : listed.getD k false = true := by simpa [Array.getD_eq_getD_getElem?, Array.getElem?_setIfInBounds_ne hkj'] using hkl
          have h1 := hcl k ok hok hkl' e he hb
          by_cases hej : e.on = j
          · rw [hej]
            simp [Array.getD_eq_getD_getElem?, Array.getElem?_setIfInBounds_self_of_lt (show j < listed.size by omega)]
          · have hej' : j ≠ e.on := fun h => hej h.symm
            simpa [Array.getD_eq_getD_getElem?, Array.getElem?_setIfInBounds_ne hej'] using h1
      have hlen2 : (unlR can (listed.setIfInBounds j true)).length ≤ fuel := by
        rw [← hun]
        have : ((unlR can listed).filter (· != j)).length < (unlR can listed).length := by
          rcases Nat.lt_or_ge ((unlR can listed).filter (· != j)).length (unlR can listed).length with h' | h'
          · exact h'
          · exfalso
            have heq := List.length_filter_eq_length_iff.1 (Nat.le_antisymm (List.length_filter_le _ _) h') j hmem
            simp at heq
        omega
      have hih := ih (t / (Region.ready .any ops listed).length) (listed.setIfInBounds j true) (by simp [hsz]) hcl2 hlen2
      refine ⟨o, ho, ?_⟩
      split at hst
      · rename_i e
        rw [if_pos e]
        exact stepW_mono (fun env h hr => ⟨hr.1, hih env h (by rw [hun] at hr; exact hr.2)⟩) hst
      · rename_i e
        rw [if_neg e]
        exact stepW_mono (fun env h hr => hih env h (by rw [hun] at hr; exact hr)) hst
/-- the static look, by rank -/
def pwChk (rk : Nat → Nat) : List Nat → Bool
  | [] => true
  | a :: r => (r.all fun b => decide (rk a < rk b)) && pwChk rk r
theorem pwChk_spec {rk : Nat → Nat} : ∀ l : List Nat, pwChk rk l = true → l.Pairwise (fun a b => rk a < rk b)
  | [], _ => List.Pairwise.nil
  | a :: r, h => by
    simp only [pwChk, Bool.and_eq_true, List.all_eq_true, decide_eq_true_eq] at h
    exact List.Pairwise.cons (fun b hb => h.1 b hb) (pwChk_spec r h.2)
def opChkM (P : Program) (ops : Array Oper) (M : Array Nat) (rk : Nat → Nat) (c : Nat) (j : Nat) : Bool :=
  match ops[j]? with
  | none => true
  | some oj => (oj.after.all fun e => !Region.binds .any e || (decide (e.on < ops.size) && decide (rk e.on < rk j))) && (List.range ops.size).all fun i => match ops[i]? with
    | none => true
    | some oi => !decide (rk i < rk j) || pairChkM P ops M rk c oi oj i j
def okRegM (P : Program) (n : Nat) (ops : Array Oper) (rkA : Array Nat) (can : List Nat) (c : Nat) : Bool :=
  (ops.toList.all fun o => match o.dst with | some d => decide (d < n) | none => true) && (match ops[c]? with | some oc => cls P oc.op == 3 | none => false) && pwChk (fun i => rkA.getD i 0) can && (can.all fun i => decide (i < ops.size)) && ((List.range ops.size).all fun i => can.contains i)
    && (List.range ops.size).all fun j => opChkM P ops (Region.before ops) (fun i => rkA.getD i 0) c j
theorem W_regionM {n : Nat} {Q : Exit → Env → Heap → Prop} {env : Env} {h : Heap} {id : Nat} {rkA : Array Nat} {can : List Nat} {c : Nat} (hm : P.follows .mixedOrders = true) (ok : okRegM P n ops rkA can c = true) (hr : regM P ops c (Q .normal) can env h) : W P n (.region id ops true) Q env h := by
  intro w0 d a hs
  simp only [okRegM, Bool.and_eq_true, List.all_eq_true, decide_eq_true_eq, List.contains_iff_mem, List.mem_range] at ok
  obtain ⟨⟨⟨⟨⟨ok1, ok2⟩, ok3⟩, ok4⟩, ok5⟩, ok6⟩ := ok
  have hd : ∀ o ∈ ops.toList, ∀ d, o.dst = some d → d < n := fun o ho d hd => by
    have := ok1 o ho
    simpa [hd] using this
  obtain ⟨oc, hoc, hcc⟩ : ∃ oc, ops[c]? = some oc ∧ cls P oc.op = 3 := by
    split at ok2
    · rename_i oc hoc; exact ⟨oc, hoc, by simpa using ok2⟩
    · cases ok2
  have hcan : ∀ i, i ∈ can ↔ i < ops.size := fun i => ⟨ok4 i, ok5 i⟩
  have hall : HallM P ops (Region.before ops) (fun i => rkA.getD i 0) c := fun j oj hj => by
    have hjs : j < ops.size := by
      rcases Nat.lt_or_ge j ops.size with h' | h'
      · exact h'
      · simp [Array.getElem?_eq_none h'] at hj
    have := ok6 j hjs
    simp only [opChkM, hj, Bool.and_eq_true] at this
    refine ⟨fun e he hb => ?_, fun i oi hi hlt => ?_⟩
    · have h1 := Array.all_eq_true'.1 this.1 e he
      simpa [hb] using h1
    · have his : i < ops.size := by
        rcases Nat.lt_or_ge i ops.size with h' | h'
        · exact h'
        · simp [Array.getElem?_eq_none h'] at hi
      have h1 := List.all_eq_true.1 this.2 i (List.mem_range.2 his)
      simp only [hi, Bool.or_eq_true, Bool.not_eq_true', decide_eq_false_iff_not] at h1
      rcases h1 with h1 | h1
      · exact absurd hlt h1
      · exact h1
  refine wp_region_draw fun t => ?_
  simp only [Region.schedule, hm, Bool.true_or, if_true]
  have hun : unlR can (Array.replicate ops.size false) = can := by
    unfold unlR
    rw [List.filter_eq_self]
    intro i hi
    have := (hcan i).1 hi
    simp [Array.getD_eq_getD_getElem?, this]
  have hlen : can.length ≤ ops.size := by
    have hnd : can.Nodup := Go.Eng.pw_of (fun h e => by subst e; omega) (pwChk_spec can ok3)
    have := hnd.length_le_of_subset (l₂ := List.range ops.size) (fun i hi => List.mem_range.2 ((hcan i).1 hi))
    simpa using this
  have hl := lin_okM (K := Q .normal) hoc hcc hall (pwChk_spec can ok3) hcan ops.size t (Array.replicate ops.size false) (by simp) (fun k o hk hkl => by
    exfalso
    simp only [Array.getD_eq_getD_getElem?, Array.getElem?_replicate] at hkl
    split at hkl <;> simp at hkl) (by rw [hun]; exact hlen) env h (by rw [hun]; exact hr)
  exact regI_sound (Q := lift w0 n Q) (w0 := w0) hd (fun env h a d s hk => ⟨env, h, d, s, rfl, hk⟩) _ env h a (d + 1) hs (regM_regI _ _ _ hl)
end calm
section less
variable {P : Program} {env env' : Env}
theorem ev_sub (hl : ∀ t v, env' t = some v → env t = some v) {x : Operand} {v : Value} (hv : ev env' x = some v) : ev env x = some v := by
  cases x with
  | tmp t => exact hl t v hv
  | _ => exact hv
theorem evs_sub (hl : ∀ t v, env' t = some v → env t = some v) : ∀ (l : List Operand) (vs : List Value), evs env' l = some vs → evs env l = some vs
  | [], vs, h => h
  | x :: r, vs, h => by
    simp only [evs] at h ⊢
    split at h
    · rename_i v us h1 h2
      rw [ev_sub hl h1, evs_sub hl r us h2]; exact h
    · cases h
theorem evps_sub (hl : ∀ t v, env' t = some v → env t = some v) : ∀ (l : List (Nat × Operand)) (vs : List (Nat × Value)), evps env' l = some vs → evps env l = some vs
  | [], vs, h => h
  | x :: r, vs, h => by
    simp only [evps] at h ⊢
    split at h
    · rename_i v us h1 h2
      rw [ev_sub hl h1, evps_sub hl r us h2]; exact h
    · cases h
theorem evo_sub (hl : ∀ t v, env' t = some v → env t = some v) {x : Option Operand} {v : Option Value} (h : evo env' x = some v) : evo env x = some v := by
  cases x with
  | none => exact h
  | some x =>
    simp only [evo, Option.map_eq_some_iff] at h ⊢
    obtain ⟨u, h1, h2⟩ := h
    exact ⟨u, ev_sub hl h1, h2⟩
theorem qV_sub (hl : ∀ t v, env' t = some v → env t = some v) (h : Heap) (op : Op) (v : Value) (hq : qV P env' h op = some v) : qV P env h op = some v := by
  cases op with
  | move x => exact ev_sub hl hq
  | assign x => exact ev_sub hl hq
  | pick c a b =>
    simp only [qV] at hq ⊢
    split at hq
    · rename_i h1; rw [ev_sub hl h1]; exact ev_sub hl hq
    · rename_i h1; rw [ev_sub hl h1]; exact ev_sub hl hq
    · cases hq
  | nilCheck x =>
    simp only [qV] at hq ⊢
    split at hq
    · rename_i h1; rw [ev_sub hl h1]; exact hq
    · cases hq
  | binOp op t x y t' =>
    simp only [qV] at hq ⊢
    split at hq
    · rename_i h1 h2; rw [ev_sub hl h1, ev_sub hl h2]; exact hq
    · cases hq
  | unOp op t x =>
    simp only [qV] at hq ⊢
    split at hq
    · rename_i h1; rw [ev_sub hl h1]; exact hq
    · cases hq
  | convert s d x =>
    simp only [qV] at hq ⊢
    split at hq
    · rename_i h1; rw [ev_sub hl h1]; exact hq
    · cases hq
  | fieldAddr s x f =>
    simp only [qV] at hq ⊢
    split at hq
    · rename_i h1 h2; rw [ev_sub hl h1, h2]; exact hq
    · cases hq
  | indexAddr t x i =>
    simp only [qV] at hq ⊢
    split at hq
    · rename_i h1 h2; rw [ev_sub hl h1, ev_sub hl h2]; exact hq
    · rename_i h1 h2; rw [ev_sub hl h1, ev_sub hl h2]; exact hq
    · cases hq
  | index t x i =>
    simp only [qV] at hq ⊢
    split at hq
    · rename_i h1 h2; rw [ev_sub hl h1, ev_sub hl h2]; exact hq
    · cases hq
  | slice t x lo hi mx =>
    cases mx with
    | some m => exact hq
    | none =>
      simp only [qV] at hq ⊢
      split at hq
      · rename_i h1 h2 h3; rw [ev_sub hl h1, evo_sub hl h2, evo_sub hl h3]; exact hq
      · cases hq
  | extract x i =>
    simp only [qV] at hq ⊢
    split at hq
    · rename_i h1; rw [ev_sub hl h1]; exact hq
    · cases hq
  | load t a =>
    simp only [qV] at hq ⊢
    split at hq
    · rename_i h1; rw [ev_sub hl h1]; exact hq
    · cases hq
  | build t parts =>
    simp only [qV] at hq ⊢
    split at hq
    · rename_i h1; rw [evps_sub hl _ _ h1]; exact hq
    · cases hq
  | call c =>
    simp only [qV] at hq ⊢
    split at hq
    · split at hq
      · rename_i h1; rw [ev_sub hl h1]; exact hq
      · rename_i h1; rw [ev_sub hl h1]; exact hq
      · cases hq
    · split at hq
      · rename_i h1; rw [ev_sub hl h1]; exact hq
      · cases hq
    · cases hq
  | _ => exact hq
theorem aV_sub (hl : ∀ t v, env' t = some v → env t = some v) (n : Nat) (op : Op) (r : Value × Array Value × TypeId) (hq : aV P env' n op = some r) : aV P env n op = some r := by
  cases op with
  | box t x =>
    simp only [aV] at hq ⊢
    split at hq
    · rename_i h1; rw [ev_sub hl h1]; exact hq
    · cases hq
  | makeSlice t l c =>
    simp only [aV] at hq ⊢
    split at hq
    · rename_i h0 h1 h2; rw [h0, ev_sub hl h1, ev_sub hl h2]; exact hq
    · cases hq
  | buildSlice t len parts =>
    simp only [aV] at hq ⊢
    split at hq
    · rename_i h0 h1; rw [h0, evps_sub hl _ _ h1]; exact hq
    · cases hq
  | _ => exact hq
theorem lW_sub (hl : ∀ t v, env' t = some v → env t = some v) (h : Heap) (K : Value → Heap → Prop) (op : Op) (hw : lW P env' h K op) : lW P env h K op := by
  cases op with
  | store t a x =>
    obtain ⟨ad, v, h', h1, h2, h3⟩ := hw
    exact ⟨ad, v, h', ev_sub hl h1, ev_sub hl h2, h3⟩
  | call c =>
    simp only [lW] at hw ⊢
    split at hw
    · obtain ⟨vs, h1, h2⟩ := hw; exact ⟨vs, evs_sub hl _ _ h1, h2⟩
    · obtain ⟨s, x, h1, h2⟩ := hw; exact ⟨s, x, evs_sub hl _ _ h1, h2⟩
    · obtain ⟨s, x, h1, h2⟩ := hw; exact ⟨s, x, evs_sub hl _ _ h1, h2⟩
    · exact hw
  | _ => exact hw
theorem opW_sub (hl : ∀ t v, env' t = some v → env t = some v) (h : Heap) (K : Value → Heap → Prop) (op : Op) (hw : opW P env' h K op) : opW P env h K op := by
  unfold opW at hw ⊢
  split at hw
  · obtain ⟨v, h1, h2⟩ := hw; exact ⟨v, qV_sub hl h op v h1, h2⟩
  · obtain ⟨v, h1, h2⟩ := hw; exact ⟨v, qV_sub hl h op v h1, h2⟩
  · obtain ⟨v, cs, t, h1, h2⟩ := hw; exact ⟨v, cs, t, aV_sub hl _ op _ h1, h2⟩
  · exact lW_sub hl h K op hw
theorem wantE_sub {ops : Array Oper} (hl : ∀ t v, env' t = some v → env t = some v) (o : Oper) (b : Bool) (hw : wantE ops env' o = some b) : wantE ops env o = some b := by
  unfold wantE at hw ⊢
  split at hw
  · exact hw
  · split at hw
    · split at hw
      · rename_i h1; rw [hl _ _ h1]; exact hw
      · cases hw
    · exact hw
theorem bnd_sub (hl : ∀ t v, env' t = some v → env t = some v) (d : Option Tmp) (u : Value) : ∀ t v, bnd d u env' t = some v → bnd d u env t = some v := by
  intro t v
  unfold bnd
  cases d with
  | none => exact hl t v
  | some d =>
    simp only
    split
    · exact id
    · exact hl t v
theorem stepW_sub {ops : Array Oper} {o : Oper} {A C : Env → Heap → Prop} {h : Heap} (hl : ∀ t v, env' t = some v → env t = some v) (hA : ∀ e e' h, (∀ t v, e' t = some v → e t = some v) → A e' h → C e h) (hw : stepW P ops o A env' h) : stepW P ops o C env h := by
  rcases hw with ⟨h1, h2⟩ | ⟨h1, h2⟩
  · exact .inl ⟨wantE_sub hl o _ h1, opW_mono (fun v h' hk => hA _ _ _ (bnd_sub hl _ v) hk) (opW_sub hl h _ _ h2)⟩
  · exact .inr ⟨wantE_sub hl o _ h1, hA _ _ _ (bnd_sub hl _ undef) h2⟩
theorem regL_sub {ops : Array Oper} {K : Env → Heap → Prop} (hK : ∀ e e' h, (∀ t v, e' t = some v → e t = some v) → K e' h → K e h) : ∀ (os : List Oper) (env env' : Env) (h : Heap), (∀ t v, env' t = some v → env t = some v) → regL P ops K os env' h → regL P ops K os env h
  | [], env, env', h, hl, hr => hK _ _ _ hl hr
  | o :: os, env, env', h, hl, hr => stepW_sub hl (fun e e' h' hl' hk => regL_sub hK os e e' h' hl' hk) hr
end less
section frames
variable {P : Program} {ops os : List Oper} {K : Ko} {l : Fr} {h : Heap} {d : Nat} {ty : TypeId} {pos : String} {aft : Array Edge}
/-- the calm step, then the rest -/
def SM (P : Program) (ops : List Oper) (K : Ko) (oc : Oper) (os : List Oper) (l : Fr) (h : Heap) : Prop :=
  stepW P ops.toArray oc (fun e h' => Grows h h' ∧ regL P ops.toArray (fun env h => ∃ l, Sub env l ∧ K l h) os e h') (E l) h
theorem SM_call {f : FuncId} {args : Array Operand} {tys : Array TypeId} {vs : List Value} (hb : hasB P f = true) (ha : evs (E l) args.toList = some vs) (hc : FC P f vs.toArray h fun v h' => Grows h h' ∧ S P ops K os ((d, v) :: l) h') : SM P ops K ⟨some d, .call ⟨.value (.func f), args, tys⟩, ty, pos, aft, none⟩ os l h := by
  refine .inl ⟨rfl, ?_⟩
  rw [opW_loud rfl]
  exact ⟨vs, ha, hb, hc⟩
theorem SM_gt {dst : Option Tmp} {op : Op} {g : Nat × Bool} (hg : wantE ops.toArray (E l) ⟨dst, op, ty, pos, aft, some g⟩ = some true) (hk : SM P ops K ⟨dst, op, ty, pos, aft, none⟩ os l h) : SM P ops K ⟨dst, op, ty, pos, aft, some g⟩ os l h := by
  rcases hk with ⟨_, hk⟩ | ⟨hk, _⟩
  · exact .inl ⟨hg, hk⟩
  · simp [wantE] at hk
theorem SM_gf {op : Op} {g : Nat × Bool} (hg : wantE ops.toArray (E l) ⟨some d, op, ty, pos, aft, some g⟩ = some false) (hk : S P ops K os ((d, undef) :: l) h) : SM P ops K ⟨some d, op, ty, pos, aft, some g⟩ os l h := .inr ⟨hg, Grows.refl _, hk⟩
/-- a list of operations by their numbers -/
def isAt (ops : List Oper) : List Nat → List Oper → Prop
  | [], [] => True
  | i :: r, o :: os => ops[i]? = some o ∧ isAt ops r os
  | _, _ => False
theorem regL_regM {c : Nat} {K : Env → Heap → Prop} : ∀ (r : List Nat) (os : List Oper), isAt ops r os → c ∉ r → ∀ env h, regL P ops.toArray K os env h → regM P ops.toArray c K r env h
  | [], [], _, _, env, h, hr => hr
  | [], _ :: _, ha, _, _, _, _ => ha.elim
  | _ :: _, [], ha, _, _, _, _ => ha.elim
  | i :: r, o :: os, ha, hc, env, h, hr => by
    refine ⟨o, by simpa using ha.1, ?_⟩
    rw [if_neg (fun e => hc (by simp [e]))]
    exact stepW_mono (regL_regM r os ha.2 (fun e => hc (by simp [e]))) hr
theorem regM_pre {c : Nat} {K : Env → Heap → Prop} {oc : Oper} {r2 : List Nat} {os2 : List Oper} (hoc : ops[c]? = some oc) (ha2 : isAt ops r2 os2) (hc2 : c ∉ r2) : ∀ (r1 : List Nat) (os1 : List Oper), isAt ops r1 os1 → c ∉ r1 → ∀ env h,
    regL P ops.toArray (fun env h1 => stepW P ops.toArray oc (fun e h' => Grows h1 h' ∧ regL P ops.toArray K os2 e h') env h1) os1 env h → regM P ops.toArray c K (r1 ++ c :: r2) env h
  | [], [], _, _, env, h, hr => by
    simp only [regL] at hr
    refine ⟨oc, by simpa using hoc, ?_⟩
    rw [if_pos rfl]
    exact stepW_mono (fun e h' hk => ⟨hk.1, regL_regM r2 os2 ha2 hc2 e h' hk.2⟩) hr
  | [], _ :: _, ha, _, _, _, _ => ha.elim
  | _ :: _, [], ha, _, _, _, _ => ha.elim
  | i :: r, o :: os, ha, hc, env, h, hr => by
    refine ⟨o, by simpa using ha.1, ?_⟩
    rw [if_neg (fun e => hc (by simp [e]))]
    simp only [regL] at hr
    exact stepW_mono (fun e h' hk => regM_pre hoc ha2 hc2 r os ha.2 (fun e => hc (by simp [e])) e h' hk) hr
def pickL (ops : List Oper) (r : List Nat) : List Oper := r.filterMap fun i => ops[i]?
theorem isAt_pick : ∀ (r : List Nat), (∀ i ∈ r, i < ops.length) → isAt ops r (pickL ops r)
  | [], _ => trivial
  | i :: r, h => by
    have hi : i < ops.length := h i (by simp)
    have e : pickL ops (i :: r) = ops[i] :: pickL ops r := by simp [pickL, hi]
    rw [e]
    exact ⟨by simp [hi], isAt_pick r fun j hj => h j (by simp [hj])⟩
/-- a region in which one call is calm -/
theorem V_regM {n : Nat} {N R : Ko} {X : List (Nat × Ko)} {id : Nat} (rkA : Array Nat) (r1 : List Nat) (c : Nat) (r2 : List Nat) {oc : Oper} (hm : P.follows .mixedOrders = true) (ok : okRegM P n ops.toArray rkA (r1 ++ c :: r2) c = true) (hoc : ops[c]? = some oc) (hn : r1.contains c = false ∧ r2.contains c = false)
    (hr : S P ops (SM P ops N oc (pickL ops r2)) (pickL ops r1) l h) : V P n (.region id ops.toArray true) N R X l h := by
  have hin : ∀ i ∈ r1 ++ c :: r2, i < ops.length := by
    intro i hi
    simp only [okRegM, Bool.and_eq_true, List.all_eq_true, decide_eq_true_eq] at ok
    have := ok.1.1.2 i hi
    simpa using this
  refine W_regionM hm ok ?_
  refine regM_pre hoc (isAt_pick r2 fun i hi => hin i (by simp [hi])) (by simpa using hn.2) r1 _ (isAt_pick r1 fun i hi => hin i (by simp [hi])) (by simpa using hn.1) _ _ ?_
  refine regL_mono (fun env h1 hk => ?_) _ _ _ hr
  obtain ⟨l1, hs, hw⟩ := hk
  refine stepW_sub hs (fun e e' h' hl hk => ⟨hk.1, regL_sub ?_ _ e e' h' hl hk.2⟩) hw
  rintro e e' h ht ⟨l2, h2, h3⟩
  exact ⟨l2, fun t v hv => ht t v (h2 t v hv), h3⟩
theorem V_srM {n : Nat} {N R : Ko} {X : List (Nat × Ko)} {id : Nat} {y : Code} (rkA : Array Nat) (r1 : List Nat) (c : Nat) (r2 : List Nat) {oc : Oper} (hm : P.follows .mixedOrders = true) (ok : okRegM P n ops.toArray rkA (r1 ++ c :: r2) c = true) (hoc : ops[c]? = some oc) (hn : r1.contains c = false ∧ r2.contains c = false)
    (hr : ∀ K : Ko, (∀ l h, V P n y N R X l h → K l h) → S P ops (SM P ops K oc (pickL ops r2)) (pickL ops r1) l h) : V P n (.seq (.region id ops.toArray true) y) N R X l h :=
  V_seq fun K hK => V_regM rkA r1 c r2 hm ok hoc hn (hr K hK)
end frames
end Go.Eng
