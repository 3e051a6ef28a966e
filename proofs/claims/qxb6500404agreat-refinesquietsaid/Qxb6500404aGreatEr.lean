import Derived.Test.Qxb6500404aGreatEn
set_option linter.unusedVariables false
set_option linter.unusedSimpArgs false
namespace Go.Eng
section fam
variable {P : Program} {ops : Array Oper}
def pairChkG (P : Program) (ops : Array Oper) (M : Array Nat) (rk : Nat → Nat) (bad : Nat → Nat → Bool) (oi oj : Oper) (i j : Nat) : Bool :=
  if bitOf M j i then oj.after.any fun e => Region.binds .any e && (e.on == i || (rk i < rk e.on && bitOf M e.on i))
  else bad i j || (oi.apart ops oj && pairOK (cls P oi.op) (cls P oj.op))
def HallG (P : Program) (ops : Array Oper) (M : Array Nat) (rk : Nat → Nat) (bad : Nat → Nat → Bool) : Prop := ∀ j oj, ops[j]? = some oj → (∀ e ∈ oj.after, Region.binds .any e = true → e.on < ops.size ∧ rk e.on < rk j) ∧ ∀ i oi, ops[i]? = some oi → rk i < rk j → pairChkG P ops M rk bad oi oj i j = true
theorem pre_listedG {M : Array Nat} {rk : Nat → Nat} {bad : Nat → Nat → Bool} {listed : Array Bool} (hall : HallG P ops M rk bad) (hcl : Closed ops listed) :
    ∀ (m j : Nat) (oj : Oper) (i : Nat) (oi : Oper), rk j = m → ops[j]? = some oj → ops[i]? = some oi → rk i < rk j → bitOf M j i = true → (∀ e ∈ oj.after, Region.binds .any e = true → listed.getD e.on false = true) → listed.getD i false = true := by
  intro m
  induction m using Nat.strongRecOn with
  | _ m ih =>
    intro j oj i oi hm hj hi hlt hbit hre
    have hp := (hall j oj hj).2 i oi hi hlt
    simp only [pairChkG, hbit, if_true, Array.any_eq_true'] at hp
    obtain ⟨e, he, hp⟩ := hp
    simp only [Bool.and_eq_true, Bool.or_eq_true, beq_iff_eq, decide_eq_true_eq] at hp
    obtain ⟨hb, hp⟩ := hp
    have hle := (hall j oj hj).1 e he hb
    have hl := hre e he hb
    rcases hp with hp | ⟨hp1, hp2⟩
    · rw [← hp]; exact hl
    · exact ih (rk e.on) (by omega) e.on ops[e.on] i oi rfl (by simp [hle.1]) hi hp1 hp2 (hcl e.on ops[e.on] (by simp [hle.1]) hl)
theorem frontG {M : Array Nat} {rk : Nat → Nat} {bad : Nat → Nat → Bool} {can : List Nat} {K : Env → Heap → Prop} (hall : HallG P ops M rk bad) (hpw0 : can.Pairwise (fun a b => rk a < rk b)) (hcan : ∀ i, i ∈ can ↔ i < ops.size) {listed : Array Bool} (hsz : listed.size = ops.size) (hcl : Closed ops listed)
    {j : Nat} {oj : Oper} (hoj : ops[j]? = some oj) (hjl : listed.getD j true = false) (hje : ∀ e ∈ oj.after, Region.binds .any e = true → listed.getD e.on false = true) (hb : ∀ i, listed.getD i true = false → rk i < rk j → bad i j = false) (env : Env) (h : Heap)
    (hr : regI P ops K (unlR can listed) env h) : stepW P ops oj (regI P ops K (unlR can (listed.setIfInBounds j true))) env h := by
  have hjlt : j < ops.size := by
    rcases Nat.lt_or_ge j ops.size with h' | h'
    · exact h'
    · simp [Array.getElem?_eq_none h'] at hoj
  have hmem : j ∈ unlR can listed := List.mem_filter.2 ⟨(hcan j).2 hjlt, by rw [hjl]; rfl⟩
  have hpw : (unlR can listed).Pairwise (fun a b => rk a < rk b) := List.Pairwise.filter _ hpw0
  have hfr := regI_frontR (K := K) hoj (unlR can listed) hpw hmem (fun i hi oi hoi hlt => by
    have hp := (hall j oj hoj).2 i oi hoi hlt
    have hil : listed.getD i true = false := by simpa using (List.mem_filter.1 hi).2
    cases hbt : bitOf M j i with
    | true =>
      exfalso
      have := pre_listedG hall hcl (rk j) j oj i oi rfl hoj hoi hlt hbt hje
      have hsz2 : i < listed.size := by have := (hcan i).1 (List.mem_filter.1 hi).1; omega
      simp only [Array.getD_eq_getD_getElem?, Array.getElem?_eq_getElem hsz2, Option.getD_some] at this hil
      rw [this] at hil; simp at hil
    | false =>
      simp only [pairChkG, hbt, Bool.false_eq_true, if_false, hb i hil hlt, Bool.false_or, Bool.and_eq_true] at hp
      exact hp) env h hr
  obtain ⟨o, ho, hst⟩ := hfr
  rw [hoj] at ho
  simp only [Option.some.injEq] at ho; subst ho
  rw [unl_set (fun k hk => by have := (hcan k).1 hk; omega)] at hst
  exact hst
theorem unl_nilG {rk : Nat → Nat} {M : Array Nat} {bad : Nat → Nat → Bool} {can : List Nat} (hall : HallG P ops M rk bad) (hpw0 : can.Pairwise (fun a b => rk a < rk b)) (hcan : ∀ i, i ∈ can ↔ i < ops.size) {listed : Array Bool} (hsz : listed.size = ops.size) (hnil : Region.ready .any ops listed = []) : unlR can listed = [] := by
  have hpw : (unlR can listed).Pairwise (fun a b => rk a < rk b) := List.Pairwise.filter _ hpw0
  cases hu : unlR can listed with
  | nil => rfl
  | cons i r =>
    exfalso
    have hmem : i ∈ unlR can listed := by rw [hu]; simp
    have hmi := List.mem_filter.1 hmem
    have hlt : i < ops.size := (hcan i).1 hmi.1
    have hleast : ∀ k, k < ops.size → rk k < rk i → listed.getD k true = true := by
      intro k hks hk
      cases hb : listed.getD k true with
      | true => rfl
      | false =>
        have hkm : k ∈ unlR can listed := List.mem_filter.2 ⟨(hcan k).2 hks, by rw [hb]; rfl⟩
        rw [hu] at hkm hpw
        rcases List.mem_cons.1 hkm with e | e
        · subst e; omega
        · have := (List.pairwise_cons.1 hpw).1 k e; omega
    have : i ∈ Region.ready .any ops listed := by
      refine mem_rdy.2 ⟨by simpa using hmi.2, ops[i], by simp [hlt], fun e he hb => ?_⟩
      have hlt2 := (hall i ops[i] (by simp [hlt])).1 e he hb
      have := hleast e.on hlt2.1 hlt2.2
      have hsz2 : e.on < listed.size := by omega
      simp only [Array.getD_eq_getD_getElem?, Array.getElem?_eq_getElem hsz2, Option.getD_some] at this ⊢
      exact this
    rw [hnil] at this
    simp at this
def badC (c : Nat) (bd : List Nat) (i j : Nat) : Bool := (i == c && bd.contains j) || (j == c && bd.contains i)
theorem lin_oneG {M : Array Nat} {rk : Nat → Nat} {c : Nat} {bd : List Nat} {can : List Nat} {K : Env → Heap → Prop} (hall : HallG P ops M rk (badC c bd)) (hpw0 : can.Pairwise (fun a b => rk a < rk b)) (hcan : ∀ i, i ∈ can ↔ i < ops.size) :
    ∀ (fuel t : Nat) (listed : Array Bool), listed.size = ops.size → Closed ops listed → (unlR can listed).length ≤ fuel → listed.getD c true = true → ∀ env h, regI P ops K (unlR can listed) env h → regI P ops K (Region.linearise.go .any ops fuel t listed []) env h := by
  intro fuel
  induction fuel with
  | zero =>
    intro t listed hsz hcl hlen _ env h hr
    have : unlR can listed = [] := List.eq_nil_of_length_eq_zero (by omega)
    rw [this] at hr
    simpa [Region.linearise.go] using hr
  | succ fuel ih =>
    intro t listed hsz hcl hlen hone env h hr
    simp only [Region.linearise.go]
    change regI P ops K (match (Region.ready .any ops listed)[t % (Region.ready .any ops listed).length]? with
      | some i => Region.linearise.go .any ops fuel (t / (Region.ready .any ops listed).length) (listed.setIfInBounds i true) [i]
      | none => [].reverse) env h
    have hin : ∀ k ∈ can, k < listed.size := fun k hk => by have := (hcan k).1 hk; omega
    cases hi : (Region.ready .any ops listed)[t % (Region.ready .any ops listed).length]? with
    | none =>
      rw [unl_nilG hall hpw0 hcan hsz (rdy_nil hi)] at hr
      simpa using hr
    | some j =>
      simp only []
      rw [linearise_go_acc, List.reverse_singleton, List.singleton_append]
      obtain ⟨hjl, oj, hoj, hje⟩ := mem_rdy.1 (List.mem_of_getElem? hi)
      have hjlt : j < ops.size := by
        rcases Nat.lt_or_ge j ops.size with h' | h'
        · exact h'
        · simp [Array.getElem?_eq_none h'] at hoj
      have hmem : j ∈ unlR can listed := List.mem_filter.2 ⟨(hcan j).2 hjlt, by rw [hjl]; rfl⟩
      have hst := frontG hall hpw0 hcan hsz hcl hoj hjl hje (fun i hil _ => by
        cases hbb : badC c bd i j with
        | false => rfl
        | true =>
          exfalso
          simp only [badC, Bool.or_eq_true, Bool.and_eq_true, beq_iff_eq] at hbb
          rcases hbb with ⟨e1, _⟩ | ⟨e1, _⟩
          · rw [e1, hone] at hil; cases hil
          · rw [e1, hone] at hjl; cases hjl) env h hr
      refine ⟨oj, hoj, stepW_mono (fun env h hr => ?_) hst⟩
      refine ih _ _ (by simp [hsz]) (closed_set hsz hcl hoj hje) (by have := unl_lt hin hmem; omega) ?_ env h hr
      cases hb : (listed.setIfInBounds j true).getD c true with
      | true => rfl
      | false =>
        have := ((set_un (by omega)).1 hb).2
        rw [hone] at this; cases this
theorem stepW_fam {ι : Type} {L : ι → Prop} {A : ι → Env → Heap → Prop} {o : Oper} {env : Env} {h : Heap} (hq : cls P o.op = 0 ∨ cls P o.op = 1 ∨ cls P o.op = 2) (hne : ∃ k, L k) (H : ∀ k, L k → stepW P ops o (A k) env h) : stepW P ops o (fun e h' => ∀ k, L k → A k e h') env h := by
  obtain ⟨k0, hk0⟩ := hne
  rcases H k0 hk0 with ⟨w, ho⟩ | ⟨w, ho⟩
  · refine .inl ⟨w, ?_⟩
    have H2 : ∀ k, L k → opW P env h (fun v h' => A k (bnd o.dst v env) h') o.op := fun k hk => by
      rcases H k hk with ⟨_, q⟩ | ⟨w', _⟩
      · exact q
      · rw [w] at w'; cases w'
    rcases hq with hq | hq | hq
    · have hq' : cls P o.op = 0 ∨ cls P o.op = 1 := .inl hq
      rw [opW_quiet hq'] at ho ⊢
      obtain ⟨v, e1, _⟩ := ho
      refine ⟨v, e1, fun k hk => ?_⟩
      have := H2 k hk
      rw [opW_quiet hq'] at this
      obtain ⟨u, e2, q⟩ := this
      rw [e1] at e2; simp only [Option.some.injEq] at e2; subst e2; exact q
    · have hq' : cls P o.op = 0 ∨ cls P o.op = 1 := .inr hq
      rw [opW_quiet hq'] at ho ⊢
      obtain ⟨v, e1, _⟩ := ho
      refine ⟨v, e1, fun k hk => ?_⟩
      have := H2 k hk
      rw [opW_quiet hq'] at this
      obtain ⟨u, e2, q⟩ := this
      rw [e1] at e2; simp only [Option.some.injEq] at e2; subst e2; exact q
    · unfold opW at ho H2 ⊢
      simp only [hq] at ho H2 ⊢
      obtain ⟨v, cs, t, e1, _⟩ := ho
      refine ⟨v, cs, t, e1, fun k hk => ?_⟩
      obtain ⟨u, cs', t', e2, q⟩ := H2 k hk
      rw [e1] at e2; simp only [Option.some.injEq, Prod.mk.injEq] at e2
      obtain ⟨rfl, rfl, rfl⟩ := e2
      exact q
  · refine .inr ⟨w, fun k hk => ?_⟩
    rcases H k hk with ⟨w', _⟩ | ⟨_, q⟩
    · rw [w] at w'; cases w'
    · exact q
theorem lin_fam {ι : Type} {M : Array Nat} {rk : ι → Nat → Nat} {c : Nat} {bd : List Nat} {can : ι → List Nat} {K : Env → Heap → Prop} (hall : ∀ k, HallG P ops M (rk k) (badC c bd)) (hpw0 : ∀ k, (can k).Pairwise (fun a b => rk k a < rk k b)) (hcan : ∀ k i, i ∈ can k ↔ i < ops.size)
    (hch : ∀ listed : Array Bool, listed.size = ops.size → Closed ops listed → ∃ k, ∀ i, i ∈ bd → (listed.getD i true = true ↔ rk k i < rk k c)) (hcl0 : c < ops.size)
    (hq : ∀ j oj, ops[j]? = some oj → j = c ∨ (cls P oj.op = 0 ∨ cls P oj.op = 1 ∨ cls P oj.op = 2) ∨ (bitOf M j c = true ∧ ∀ k, rk k c < rk k j)) :
    ∀ (fuel t : Nat) (listed : Array Bool), listed.size = ops.size → Closed ops listed → (∀ k, (unlR (can k) listed).length ≤ fuel) → listed.getD c true = false → ∀ env h, (∀ k, (∀ i, i ∈ bd → listed.getD i true = true → rk k i < rk k c) → regI P ops K (unlR (can k) listed) env h) → regI P ops K (Region.linearise.go .any ops fuel t listed []) env h := by
  intro fuel
  induction fuel with
  | zero =>
    intro t listed hsz hcl hlen _ env h hr
    obtain ⟨k, hk⟩ := hch listed hsz hcl
    have hr := hr k (fun i hi hl => (hk i hi).1 hl)
    have : unlR (can k) listed = [] := List.eq_nil_of_length_eq_zero (by have := hlen k; omega)
    rw [this] at hr
    simpa [Region.linearise.go] using hr
  | succ fuel ih =>
    intro t listed hsz hcl hlen hlc env h hr
    simp only [Region.linearise.go]
    change regI P ops K (match (Region.ready .any ops listed)[t % (Region.ready .any ops listed).length]? with
      | some i => Region.linearise.go .any ops fuel (t / (Region.ready .any ops listed).length) (listed.setIfInBounds i true) [i]
      | none => [].reverse) env h
    have hin : ∀ k, ∀ z ∈ can k, z < listed.size := fun k z hz => by have := (hcan k z).1 hz; omega
    cases hi : (Region.ready .any ops listed)[t % (Region.ready .any ops listed).length]? with
    | none =>
      obtain ⟨k, hk⟩ := hch listed hsz hcl
      have hr := hr k (fun i hi hl => (hk i hi).1 hl)
      rw [unl_nilG (hall k) (hpw0 k) (hcan k) hsz (rdy_nil hi)] at hr
      simpa using hr
    | some j =>
      simp only []
      rw [linearise_go_acc, List.reverse_singleton, List.singleton_append]
      obtain ⟨hjl, oj, hoj, hje⟩ := mem_rdy.1 (List.mem_of_getElem? hi)
      have hjlt : j < ops.size := by
        rcases Nat.lt_or_ge j ops.size with h' | h'
        · exact h'
        · simp [Array.getElem?_eq_none h'] at hoj
      have hmem : ∀ k, j ∈ unlR (can k) listed := fun k => List.mem_filter.2 ⟨(hcan k j).2 hjlt, by rw [hjl]; rfl⟩
      have hcl2 := closed_set hsz hcl hoj hje
      refine ⟨oj, hoj, ?_⟩
      by_cases ec : j = c
      · subst ec
        obtain ⟨k, hk⟩ := hch listed hsz hcl
        have hst := frontG (hall k) (hpw0 k) (hcan k) hsz hcl hoj hjl hje (fun i hil hlt => by
          cases hbb : badC j bd i j with
          | false => rfl
          | true =>
            exfalso
            simp only [badC, Bool.or_eq_true, Bool.and_eq_true, beq_iff_eq, List.contains_iff_mem] at hbb
            rcases hbb with ⟨e1, _⟩ | ⟨_, e2⟩
            · rw [e1] at hlt; omega
            · have := (hk i e2).2 hlt
              rw [hil] at this; cases this) env h (hr k (fun i hi hl => (hk i hi).1 hl))
        refine stepW_mono (fun env h hr => ?_) hst
        refine lin_oneG (hall k) (hpw0 k) (hcan k) _ _ _ (by simp [hsz]) hcl2 (by have := unl_lt (hin k) (hmem k); have := hlen k; omega) ?_ env h hr
        cases hb : (listed.setIfInBounds j true).getD j true with
        | true => rfl
        | false => exact absurd rfl ((set_un (by omega)).1 hb).1
      · have hup : ∀ i, listed.getD i true = true → (listed.setIfInBounds j true).getD i true = true := fun i hi => by
          cases hb : (listed.setIfInBounds j true).getD i true with
          | true => rfl
          | false =>
            have := ((set_un (by omega)).1 hb).2
            rw [hi] at this; cases this
        have hjt : (listed.setIfInBounds j true).getD j true = true := by
          cases hb : (listed.setIfInBounds j true).getD j true with
          | true => rfl
          | false => exact absurd rfl ((set_un (by omega)).1 hb).1
        have hqj : cls P oj.op = 0 ∨ cls P oj.op = 1 ∨ cls P oj.op = 2 := by
          rcases hq j oj hoj with q | q | q
          · exact absurd q ec
          · exact q
          · exfalso
            obtain ⟨k, _⟩ := hch listed hsz hcl
            have := pre_listedG (hall k) hcl (rk k j) j oj c ops[c] rfl hoj (by simp [hcl0]) (q.2 k) q.1 hje
            have hsz2 : c < listed.size := by omega
            simp only [Array.getD_eq_getD_getElem?, Array.getElem?_eq_getElem hsz2, Option.getD_some] at this hlc
            rw [this] at hlc; simp at hlc
        have hst := stepW_fam (P := P) (ops := ops) (o := oj) (env := env) (h := h) (L := fun k => ∀ i, i ∈ bd → (listed.setIfInBounds j true).getD i true = true → rk k i < rk k c) (A := fun k => regI P ops K (unlR (can k) (listed.setIfInBounds j true))) hqj (by
            obtain ⟨k, hk⟩ := hch _ (by simp [hsz]) hcl2
            exact ⟨k, fun i hi hl => (hk i hi).1 hl⟩) (fun k hk => by
            refine frontG (hall k) (hpw0 k) (hcan k) hsz hcl hoj hjl hje (fun i hil hlt => ?_) env h (hr k (fun i hi hl => hk i hi (hup i hl)))
            cases hbb : badC c bd i j with
            | false => rfl
            | true =>
              exfalso
              simp only [badC, Bool.or_eq_true, Bool.and_eq_true, beq_iff_eq, List.contains_iff_mem] at hbb
              rcases hbb with ⟨e1, e2⟩ | ⟨e1, _⟩
              · have := hk j e2 hjt
                rw [e1] at hlt; omega
              · exact ec e1)
        refine stepW_mono (fun env h hr => ?_) hst
        refine ih _ _ (by simp [hsz]) hcl2 (fun k => by have := unl_lt (hin k) (hmem k); have := hlen k; omega) ?_ env h hr
        cases hb : (listed.setIfInBounds j true).getD c true with
        | false => rfl
        | true =>
          have := (set_un (listed := listed) (j := j) (k := c) (by omega)).2 ⟨fun e => ec e.symm, hlc⟩
          rw [hb] at this; cases this
def opChkG (P : Program) (ops : Array Oper) (M : Array Nat) (rk : Nat → Nat) (bad : Nat → Nat → Bool) (j : Nat) : Bool :=
  match ops[j]? with
  | none => true
  | some oj => (oj.after.all fun e => !Region.binds .any e || (decide (e.on < ops.size) && decide (rk e.on < rk j))) && (List.range ops.size).all fun i => match ops[i]? with
    | none => true
    | some oi => !decide (rk i < rk j) || pairChkG P ops M rk bad oi oj i j
def canChkG (P : Program) (ops : Array Oper) (rkA : Array Nat) (can : List Nat) (bad : Nat → Nat → Bool) : Bool :=
  pwChk (fun i => rkA.getD i 0) can && (can.all fun i => decide (i < ops.size)) && ((List.range ops.size).all fun i => can.contains i) && (List.range ops.size).all fun j => opChkG P ops (Region.before ops) (fun i => rkA.getD i 0) bad j
theorem canChkG_spec {rkA : Array Nat} {can : List Nat} {bad : Nat → Nat → Bool} (ok : canChkG P ops rkA can bad = true) : HallG P ops (Region.before ops) (fun i => rkA.getD i 0) bad ∧ can.Pairwise (fun a b => rkA.getD a 0 < rkA.getD b 0) ∧ ∀ i, i ∈ can ↔ i < ops.size := by
  simp only [canChkG, Bool.and_eq_true, List.all_eq_true, decide_eq_true_eq, List.contains_iff_mem, List.mem_range] at ok
  obtain ⟨⟨⟨ok3, ok4⟩, ok5⟩, ok6⟩ := ok
  refine ⟨fun j oj hj => ?_, pwChk_spec can ok3, fun i => ⟨ok4 i, ok5 i⟩⟩
  have hjs : j < ops.size := by
    rcases Nat.lt_or_ge j ops.size with h' | h'
    · exact h'
    · simp [Array.getElem?_eq_none h'] at hj
  have := ok6 j hjs
  simp only [opChkG, hj, Bool.and_eq_true] at this
  refine ⟨fun e he hb => ?_, fun i oi hi hlt => ?_⟩
  · have h1 := Array.all_eq_true'.1 this.1 e he
    simpa [hb] using h1
  · have his : i < ops.size := by
      rcases Nat.lt_or_ge i ops.size with h' | h'
      · exact h'
      · simp [Array.getElem?_eq_none h'] at hi
    have h1 := List.all_eq_true.1 this.2 i (List.mem_range.2 his)
    simp only [hi, Bool.or_eq_true, Bool.not_eq_true', decide_eq_false_iff_not] at h1
    rcases h1 with h1 | h1
    · exact absurd hlt h1
    · exact h1
def dstChk (n : Nat) (ops : Array Oper) : Bool := ops.toList.all fun o => match o.dst with | some d => decide (d < n) | none => true
/-- one order stands for all -/
def okRegO (P : Program) (n : Nat) (ops : Array Oper) (rA : Array Nat) (can : List Nat) : Bool := dstChk n ops && canChkG P ops rA can (badC ops.size [])
theorem W_regionO {n : Nat} {Q : Exit → Env → Heap → Prop} {env : Env} {h : Heap} {id : Nat} {rA : Array Nat} {can : List Nat} (hm : P.follows .mixedOrders = true) (ok : okRegO P n ops rA can = true) (hr : regI P ops (Q .normal) can env h) : W P n (.region id ops true) Q env h := by
  intro w0 d act hs
  simp only [okRegO, dstChk, Bool.and_eq_true] at ok
  obtain ⟨a1, a2, a3⟩ := canChkG_spec ok.2
  have hd : ∀ o ∈ ops.toList, ∀ d, o.dst = some d → d < n := fun o ho d hd => by
    have := List.all_eq_true.1 ok.1 o ho
    simpa [hd] using this
  refine wp_region_draw fun t => ?_
  simp only [Region.schedule, hm, Bool.true_or, if_true]
  have hl := lin_oneG (K := Q .normal) a1 a2 a3 ops.size t (Array.replicate ops.size false) (by simp) (fun k o hk hkl => by
    exfalso
    simp only [Array.getD_eq_getD_getElem?, Array.getElem?_replicate] at hkl
    split at hkl <;> simp at hkl) (by rw [unl_all a3]; exact can_len a2 a3) (by simp [Array.getD_eq_getD_getElem?]) env h (by rw [unl_all a3]; exact hr)
  exact regI_sound (Q := lift w0 n Q) (w0 := w0) hd (fun env h a d s hk => ⟨env, h, d, s, rfl, hk⟩) _ env h act (d + 1) hs hl
/-- x, then y behind x; the call c stands ahead of both, between them, or behind both -/
def okRegT (P : Program) (n : Nat) (ops : Array Oper) (r0 : Array Nat) (c0 : List Nat) (r1 : Array Nat) (c1 : List Nat) (r2 : Array Nat) (c2 : List Nat) (c x y : Nat) : Bool :=
  dstChk n ops && canChkG P ops r0 c0 (badC c [x, y]) && canChkG P ops r1 c1 (badC c [x, y]) && canChkG P ops r2 c2 (badC c [x, y])
    && decide (c < ops.size) && decide (x < ops.size) && decide (y < ops.size) && bitOf (Region.before ops) y x && decide (r0.getD x 0 < r0.getD y 0)
    && decide (r0.getD c 0 < r0.getD x 0) && decide (r0.getD c 0 < r0.getD y 0) && decide (r1.getD x 0 < r1.getD c 0) && decide (r1.getD c 0 < r1.getD y 0) && decide (r2.getD x 0 < r2.getD c 0) && decide (r2.getD y 0 < r2.getD c 0)
    && (List.range ops.size).all fun j => match ops[j]? with
      | none => true
      | some oj => j == c || cls P oj.op == 0 || cls P oj.op == 1 || cls P oj.op == 2 || (bitOf (Region.before ops) j c && decide (r0.getD c 0 < r0.getD j 0) && decide (r1.getD c 0 < r1.getD j 0) && decide (r2.getD c 0 < r2.getD j 0))
def pk3 {α : Type} (a b c : α) (k : Nat) : α := if k = 0 then a else if k = 1 then b else c
theorem pk3_all {α : Type} {a b c : α} {p : α → Prop} (h0 : p a) (h1 : p b) (h2 : p c) (k : Nat) : p (pk3 a b c k) := by
  unfold pk3; split
  · exact h0
  · split
    · exact h1
    · exact h2
theorem W_regionT {n : Nat} {Q : Exit → Env → Heap → Prop} {env : Env} {h : Heap} {id : Nat} {r0 r1 r2 : Array Nat} {c0 c1 c2 : List Nat} {c x y : Nat} (hm : P.follows .mixedOrders = true) (ok : okRegT P n ops r0 c0 r1 c1 r2 c2 c x y = true) (hr0 : regI P ops (Q .normal) c0 env h) (hr1 : regI P ops (Q .normal) c1 env h) (hr2 : regI P ops (Q .normal) c2 env h) : W P n (.region id ops true) Q env h := by
  intro w0 d act hs
  simp only [okRegT, dstChk, Bool.and_eq_true, decide_eq_true_eq] at ok
  obtain ⟨⟨⟨⟨⟨⟨⟨⟨⟨⟨⟨⟨⟨⟨⟨ok1, k0⟩, k1⟩, k2⟩, hcs⟩, hxs⟩, hys⟩, hbit⟩, q0⟩, q1⟩, q2⟩, q3⟩, q4⟩, q5⟩, q6⟩, k6⟩ := ok
  have A0 := canChkG_spec k0
  have A1 := canChkG_spec k1
  have A2 := canChkG_spec k2
  have hd : ∀ o ∈ ops.toList, ∀ d, o.dst = some d → d < n := fun o ho d hd => by
    have := List.all_eq_true.1 ok1 o ho
    simpa [hd] using this
  have hAll : ∀ k, HallG P ops (Region.before ops) (fun i => (pk3 (r0, c0) (r1, c1) (r2, c2) k).1.getD i 0) (badC c [x, y]) ∧ (pk3 (r0, c0) (r1, c1) (r2, c2) k).2.Pairwise (fun a b => (pk3 (r0, c0) (r1, c1) (r2, c2) k).1.getD a 0 < (pk3 (r0, c0) (r1, c1) (r2, c2) k).1.getD b 0) ∧ (∀ i, i ∈ (pk3 (r0, c0) (r1, c1) (r2, c2) k).2 ↔ i < ops.size) ∧ regI P ops (Q .normal) (pk3 (r0, c0) (r1, c1) (r2, c2) k).2 env h :=
    fun k => pk3_all (p := fun z : Array Nat × List Nat => HallG P ops (Region.before ops) (fun i => z.1.getD i 0) (badC c [x, y]) ∧ z.2.Pairwise (fun a b => z.1.getD a 0 < z.1.getD b 0) ∧ (∀ i, i ∈ z.2 ↔ i < ops.size) ∧ regI P ops (Q .normal) z.2 env h) ⟨A0.1, A0.2.1, A0.2.2, hr0⟩ ⟨A1.1, A1.2.1, A1.2.2, hr1⟩ ⟨A2.1, A2.2.1, A2.2.2, hr2⟩ k
  refine wp_region_draw fun t => ?_
  simp only [Region.schedule, hm, Bool.true_or, if_true]
  have hl := lin_fam (K := Q .normal) (rk := fun k i => (pk3 (r0, c0) (r1, c1) (r2, c2) k).1.getD i 0) (can := fun k => (pk3 (r0, c0) (r1, c1) (r2, c2) k).2) (fun k => (hAll k).1) (fun k => (hAll k).2.1) (fun k => (hAll k).2.2.1) (fun listed hsz hcl => by
      have hbr : ∀ i, i < ops.size → listed.getD i false = listed.getD i true := fun i hi => by
        have hi2 : i < listed.size := by omega
        simp only [Array.getD_eq_getD_getElem?, Array.getElem?_eq_getElem hi2, Option.getD_some]
      have hyx : listed.getD y true = true → listed.getD x true = true := fun hy => by
        rw [← hbr x hxs]
        exact pre_listedG A0.1 hcl (r0.getD y 0) y ops[y] x ops[x] rfl (by simp [hys]) (by simp [hxs]) q0 hbit (hcl y ops[y] (by simp [hys]) (by rw [hbr y hys]; exact hy))
      cases hx : listed.getD x true with
      | false =>
        have hy : listed.getD y true = false := by
          cases hy : listed.getD y true with
          | false => rfl
          | true => rw [hyx hy] at hx; cases hx
        refine ⟨0, fun i hi => ?_⟩
        simp only [List.mem_cons, List.not_mem_nil, or_false] at hi
        simp only [pk3, if_true]
        rcases hi with rfl | rfl
        · rw [hx]; exact ⟨fun z => (by cases z), fun z => by omega⟩
        · rw [hy]; exact ⟨fun z => (by cases z), fun z => by omega⟩
      | true =>
        cases hy : listed.getD y true with
        | false =>
          refine ⟨1, fun i hi => ?_⟩
          simp only [List.mem_cons, List.not_mem_nil, or_false] at hi
          simp only [pk3, Nat.one_ne_zero, if_true, if_false]
          rcases hi with rfl | rfl
          · rw [hx]; exact ⟨fun _ => q3, fun _ => rfl⟩
          · rw [hy]; exact ⟨fun z => (by cases z), fun z => by omega⟩
        | true =>
          refine ⟨2, fun i hi => ?_⟩
          simp only [List.mem_cons, List.not_mem_nil, or_false] at hi
          simp only [pk3, show ¬ (2 : Nat) = 0 from by decide, show ¬ (2 : Nat) = 1 from by decide, if_false]
          rcases hi with rfl | rfl
          · rw [hx]; exact ⟨fun _ => q5, fun _ => rfl⟩
          · rw [hy]; exact ⟨fun _ => q6, fun _ => rfl⟩) hcs (fun j oj hj => by
      have hjs : j < ops.size := by
        rcases Nat.lt_or_ge j ops.size with h' | h'
        · exact h'
        · simp [Array.getElem?_eq_none h'] at hj
      have := List.all_eq_true.1 k6 j (List.mem_range.2 hjs)
      simp only [hj, Bool.or_eq_true, beq_iff_eq, Bool.and_eq_true, decide_eq_true_eq] at this
      rcases this with (((q | q) | q) | q) | ⟨⟨⟨z1, z2⟩, z3⟩, z4⟩
      · exact .inl q
      · exact .inr (.inl (.inl q))
      · exact .inr (.inl (.inr (.inl q)))
      · exact .inr (.inl (.inr (.inr q)))
      · exact .inr (.inr ⟨z1, fun k => pk3_all (p := fun z : Array Nat × List Nat => z.1.getD c 0 < z.1.getD j 0) z2 z3 z4 k⟩)) ops.size t (Array.replicate ops.size false) (by simp) (fun k o hk hkl => by
    exfalso
    simp only [Array.getD_eq_getD_getElem?, Array.getElem?_replicate] at hkl
    split at hkl <;> simp at hkl) (fun k => by rw [unl_all (hAll k).2.2.1]; exact can_len (hAll k).2.1 (hAll k).2.2.1) (by simp [Array.getD_eq_getD_getElem?, hcs]) env h (fun k _ => by rw [unl_all (hAll k).2.2.1]; exact (hAll k).2.2.2)
  exact regI_sound (Q := lift w0 n Q) (w0 := w0) hd (fun env h a d s hk => ⟨env, h, d, s, rfl, hk⟩) _ env h act (d + 1) hs hl
end fam
section frames
variable {P : Program} {ops : List Oper} {l : Fr} {h : Heap}
theorem V_srO {n : Nat} {N R : Ko} {X : List (Nat × Ko)} {id : Nat} {y : Code} (rA : Array Nat) (can : List Nat) (hm : P.follows .mixedOrders = true) (ok : okRegO P n ops.toArray rA can = true)
    (hr : ∀ K : Ko, (∀ l h, V P n y N R X l h → K l h) → S P ops K (pickL ops can) l h) : V P n (.seq (.region id ops.toArray true) y) N R X l h :=
  V_seq fun K hK => by
    have ok2 := ok
    simp only [okRegO, Bool.and_eq_true] at ok2
    have c1 := (canChkG_spec ok2.2).2.2
    exact W_regionO hm ok (regL_isAt can _ (isAt_pick can (fun i hi => by simpa using (c1 i).1 hi)) _ _ (hr K hK))
theorem V_regO {n : Nat} {N R : Ko} {X : List (Nat × Ko)} {id : Nat} (rA : Array Nat) (can : List Nat) (hm : P.follows .mixedOrders = true) (ok : okRegO P n ops.toArray rA can = true) (hr : S P ops N (pickL ops can) l h) : V P n (.region id ops.toArray true) N R X l h := by
  have ok2 := ok
  simp only [okRegO, Bool.and_eq_true] at ok2
  have c1 := (canChkG_spec ok2.2).2.2
  exact W_regionO hm ok (regL_isAt can _ (isAt_pick can (fun i hi => by simpa using (c1 i).1 hi)) _ _ hr)
theorem V_srT {n : Nat} {N R : Ko} {X : List (Nat × Ko)} {id : Nat} {yy : Code} (r0 : Array Nat) (c0 : List Nat) (r1 : Array Nat) (c1 : List Nat) (r2 : Array Nat) (c2 : List Nat) (c x y : Nat) (hm : P.follows .mixedOrders = true) (ok : okRegT P n ops.toArray r0 c0 r1 c1 r2 c2 c x y = true)
    (hr : ∀ K : Ko, (∀ l h, V P n yy N R X l h → K l h) → S P ops K (pickL ops c0) l h ∧ S P ops K (pickL ops c1) l h ∧ S P ops K (pickL ops c2) l h) : V P n (.seq (.region id ops.toArray true) yy) N R X l h :=
  V_seq fun K hK => by
    have ok2 := ok
    simp only [okRegT, Bool.and_eq_true] at ok2
    obtain ⟨⟨⟨⟨⟨⟨⟨⟨⟨⟨⟨⟨⟨⟨⟨_, k0⟩, k1⟩, k2⟩, _⟩, _⟩, _⟩, _⟩, _⟩, _⟩, _⟩, _⟩, _⟩, _⟩, _⟩, _⟩ := ok2
    have b0 := (canChkG_spec k0).2.2
    have b1 := (canChkG_spec k1).2.2
    have b2 := (canChkG_spec k2).2.2
    obtain ⟨h0, h1, h2⟩ := hr K hK
    exact W_regionT hm ok (regL_isAt c0 _ (isAt_pick c0 (fun i hi => by simpa using (b0 i).1 hi)) _ _ h0) (regL_isAt c1 _ (isAt_pick c1 (fun i hi => by simpa using (b1 i).1 hi)) _ _ h1) (regL_isAt c2 _ (isAt_pick c2 (fun i hi => by simpa using (b2 i).1 hi)) _ _ h2)
end frames
end Go.Eng
