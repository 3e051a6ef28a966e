import Derived.Test.Qxb6500401aGreatEm
set_option linter.unusedVariables false
set_option linter.unusedSimpArgs false
namespace Go.Eng
section two
variable {P : Program} {ops : Array Oper}
/-- the pair that stands in either order -/
def badP (a c i j : Nat) : Bool := (i == a && j == c) || (i == c && j == a)
def pairChkX (P : Program) (ops : Array Oper) (M : Array Nat) (rk : Nat → Nat) (a c : Nat) (oi oj : Oper) (i j : Nat) : Bool :=
  if bitOf M j i then oj.after.any fun e => Region.binds .any e && (e.on == i || (rk i < rk e.on && bitOf M e.on i))
  else badP a c i j || (oi.apart ops oj && pairOK (cls P oi.op) (cls P oj.op))
def HallX (P : Program) (ops : Array Oper) (M : Array Nat) (rk : Nat → Nat) (a c : Nat) : Prop := ∀ j oj, ops[j]? = some oj → (∀ e ∈ oj.after, Region.binds .any e = true → e.on < ops.size ∧ rk e.on < rk j) ∧ ∀ i oi, ops[i]? = some oi → rk i < rk j → pairChkX P ops M rk a c oi oj i j = true
theorem pre_listedX {M : Array Nat} {rk : Nat → Nat} {a c : Nat} {listed : Array Bool} (hall : HallX P ops M rk a c) (hcl : Closed ops listed) :
    ∀ (m j : Nat) (oj : Oper) (i : Nat) (oi : Oper), rk j = m → ops[j]? = some oj → ops[i]? = some oi → rk i < rk j → bitOf M j i = true → (∀ e ∈ oj.after, Region.binds .any e = true → listed.getD e.on false = true) → listed.getD i false = true := by
  intro m
  induction m using Nat.strongRecOn with
  | _ m ih =>
    intro j oj i oi hm hj hi hlt hbit hre
    have hp := (hall j oj hj).2 i oi hi hlt
    simp only [pairChkX, hbit, if_true, Array.any_eq_true'] at hp
    obtain ⟨e, he, hp⟩ := hp
    simp only [Bool.and_eq_true, Bool.or_eq_true, beq_iff_eq, decide_eq_true_eq] at hp
    obtain ⟨hb, hp⟩ := hp
    have hle := (hall j oj hj).1 e he hb
    have hl := hre e he hb
    rcases hp with hp | ⟨hp1, hp2⟩
    · rw [← hp]; exact hl
    · exact ih (rk e.on) (by omega) e.on ops[e.on] i oi rfl (by simp [hle.1]) hi hp1 hp2 (hcl e.on ops[e.on] (by simp [hle.1]) hl)
theorem regI_frontR {rk : Nat → Nat} {K : Env → Heap → Prop} {j : Nat} {oj : Oper} (hoj : ops[j]? = some oj) : ∀ (rem : List Nat), rem.Pairwise (fun a b => rk a < rk b) → j ∈ rem →
    (∀ i ∈ rem, ∀ oi, ops[i]? = some oi → rk i < rk j → oi.apart ops oj = true ∧ pairOK (cls P oi.op) (cls P oj.op) = true) →
    ∀ env h, regI P ops K rem env h → regI P ops K (j :: rem.filter (· != j)) env h
  | [], _, hm, _, _, _, _ => by simp at hm
  | i :: r, hs, hm, hc, env, h, ⟨oi, hoi, hst⟩ => by
    have hs' := List.pairwise_cons.1 hs
    by_cases hij : i = j
    · subst hij
      have : r.filter (· != i) = r := by
        rw [List.filter_eq_self]
        intro k hk
        have := hs'.1 k hk
        simp; intro e; subst e; omega
      simp only [List.filter_cons, bne_self_eq_false, Bool.false_eq_true, if_false, this]
      exact ⟨oi, hoi, hst⟩
    · have hm' : j ∈ r := by simpa [Ne.symm hij] using hm
      have hlt := hs'.1 j hm'
      have ih := regI_frontR (K := K) hoj r hs'.2 hm' (fun k hk => hc k (by simp [hk]))
      obtain ⟨c1, c2⟩ := hc i (by simp) oi hoi hlt
      have hst2 : stepW P ops oi (stepW P ops oj (regI P ops K (r.filter (· != j)))) env h := by
        refine stepW_mono (fun env h hr => ?_) hst
        obtain ⟨o, ho, hr⟩ := ih env h hr
        rw [hoj] at ho
        simp only [Option.some.injEq] at ho; subst ho
        exact hr
      have hsw := swap c1 c2 hst2
      have hf : (i :: r).filter (· != j) = i :: r.filter (· != j) := by simp [hij]
      rw [hf]
      exact ⟨oj, hoj, stepW_mono (fun env h hr => ⟨oi, hoi, hr⟩) hsw⟩
theorem unl_set {can : List Nat} {listed : Array Bool} {j : Nat} (hsz : ∀ k ∈ can, k < listed.size) : (unlR can listed).filter (· != j) = unlR can (listed.setIfInBounds j true) := by
  unfold unlR
  rw [List.filter_filter]
  apply List.filter_congr
  intro k hk
  have hklt : k < listed.size := hsz k hk
  by_cases e : k = j
  · subst e
    simp [Array.getD_eq_getD_getElem?, Array.getElem?_setIfInBounds_self_of_lt hklt]
  · have e' : j ≠ k := fun h => e h.symm
    simp [Array.getD_eq_getD_getElem?, Array.getElem?_setIfInBounds_ne e', e]
/-- the operation drawn comes to the front -/
theorem frontX {M : Array Nat} {rk : Nat → Nat} {a c : Nat} {can : List Nat} {K : Env → Heap → Prop} (hall : HallX P ops M rk a c) (hpw0 : can.Pairwise (fun a b => rk a < rk b)) (hcan : ∀ i, i ∈ can ↔ i < ops.size) {listed : Array Bool} (hsz : listed.size = ops.size) (hcl : Closed ops listed)
    {j : Nat} {oj : Oper} (hoj : ops[j]? = some oj) (hjl : listed.getD j true = false) (hje : ∀ e ∈ oj.after, Region.binds .any e = true → listed.getD e.on false = true) (hb : ∀ i, listed.getD i true = false → rk i < rk j → badP a c i j = false) (env : Env) (h : Heap)
    (hr : regI P ops K (unlR can listed) env h) : stepW P ops oj (regI P ops K (unlR can (listed.setIfInBounds j true))) env h := by
  have hjlt : j < ops.size := by
    rcases Nat.lt_or_ge j ops.size with h' | h'
    · exact h'
    · simp [Array.getElem?_eq_none h'] at hoj
  have hmem : j ∈ unlR can listed := List.mem_filter.2 ⟨(hcan j).2 hjlt, by rw [hjl]; rfl⟩
  have hpw : (unlR can listed).Pairwise (fun a b => rk a < rk b) := List.Pairwise.filter _ hpw0
  have hfr := regI_frontR (K := K) hoj (unlR can listed) hpw hmem (fun i hi oi hoi hlt => by
    have hp := (hall j oj hoj).2 i oi hoi hlt
    have hil : listed.getD i true = false := by simpa using (List.mem_filter.1 hi).2
    cases hbt : bitOf M j i with
    | true =>
      exfalso
      have := pre_listedX hall hcl (rk j) j oj i oi rfl hoj hoi hlt hbt hje
      have hsz2 : i < listed.size := by have := (hcan i).1 (List.mem_filter.1 hi).1; omega
      simp only [Array.getD_eq_getD_getElem?, Array.getElem?_eq_getElem hsz2, Option.getD_some] at this hil
      rw [this] at hil; simp at hil
    | false =>
      simp only [pairChkX, hbt, Bool.false_eq_true, if_false, hb i hil hlt, Bool.false_or, Bool.and_eq_true] at hp
      exact hp) env h hr
  obtain ⟨o, ho, hst⟩ := hfr
  rw [hoj] at ho
  simp only [Option.some.injEq] at ho; subst ho
  rw [unl_set (fun k hk => by have := (hcan k).1 hk; omega)] at hst
  exact hst
theorem stepW_and {o : Oper} {A C : Env → Heap → Prop} {env : Env} {h : Heap} (hq : cls P o.op = 0 ∨ cls P o.op = 1) (ha : stepW P ops o A env h) (hc : stepW P ops o C env h) : stepW P ops o (fun e h' => A e h' ∧ C e h') env h := by
  rcases ha with ⟨h1, h2⟩ | ⟨h1, h2⟩
  · rcases hc with ⟨h3, h4⟩ | ⟨h3, h4⟩
    · rw [opW_quiet hq] at h2 h4
      obtain ⟨v, e1, e2⟩ := h2
      obtain ⟨u, e3, e4⟩ := h4
      rw [e1] at e3; simp only [Option.some.injEq] at e3; subst e3
      exact .inl ⟨h1, by rw [opW_quiet hq]; exact ⟨v, e1, e2, e4⟩⟩
    · rw [h1] at h3; cases h3
  · rcases hc with ⟨h3, h4⟩ | ⟨h3, h4⟩
    · rw [h1] at h3; cases h3
    · exact .inr ⟨h1, h2, h4⟩
theorem closed_set {listed : Array Bool} (hsz : listed.size = ops.size) (hcl : Closed ops listed) {j : Nat} {oj : Oper} (hoj : ops[j]? = some oj) (hje : ∀ e ∈ oj.after, Region.binds .any e = true → listed.getD e.on false = true) : Closed ops (listed.setIfInBounds j true) := by
  have hjlt : j < ops.size := by
    rcases Nat.lt_or_ge j ops.size with h' | h'
    · exact h'
    · simp [Array.getElem?_eq_none h'] at hoj
  have up : ∀ k, listed.getD k false = true → (listed.setIfInBounds j true).getD k false = true := fun k hk => by
    by_cases e : k = j
    · rw [e]; simp [Array.getD_eq_getD_getElem?, Array.getElem?_setIfInBounds_self_of_lt (show j < listed.size by omega)]
    · have e' : j ≠ k := fun h => e h.symm
      simpa [Array.getD_eq_getD_getElem?, Array.getElem?_setIfInBounds_ne e'] using hk
  intro k ok hok hkl e he hb
  by_cases hkj : k = j
  · subst hkj
    rw [hoj] at hok
    simp only [Option.some.injEq] at hok; subst hok
    exact up _ (hje e he hb)
  · have hkj' : j ≠ k := fun h => hkj h.symm
    have hkl' : listed.getD k false = true := by simpa [Array.getD_eq_getD_getElem?, Array.getElem?_setIfInBounds_ne hkj'] using hkl
    exact up _ (hcl k ok hok hkl' e he hb)
theorem unl_nil {rk : Nat → Nat} {M : Array Nat} {a c : Nat} {can : List Nat} (hall : HallX P ops M rk a c) (hpw0 : can.Pairwise (fun a b => rk a < rk b)) (hcan : ∀ i, i ∈ can ↔ i < ops.size) {listed : Array Bool} (hsz : listed.size = ops.size) (hnil : Region.ready .any ops listed = []) : unlR can listed = [] := by
  have hpw : (unlR can listed).Pairwise (fun a b => rk a < rk b) := List.Pairwise.filter _ hpw0
  cases hu : unlR can listed with
  | nil => rfl
  | cons i r =>
    exfalso
    have hmem : i ∈ unlR can listed := by rw [hu]; simp
    have hmi := List.mem_filter.1 hmem
    have hlt : i < ops.size := (hcan i).1 hmi.1
    have hleast : ∀ k, k < ops.size → rk k < rk i → listed.getD k true = true := by
      intro k hks hk
      cases hb : listed.getD k true with
      | true => rfl
      | false =>
        have hkm : k ∈ unlR can listed := List.mem_filter.2 ⟨(hcan k).2 hks, by rw [hb]; rfl⟩
        rw [hu] at hkm hpw
        rcases List.mem_cons.1 hkm with e | e
        · subst e; omega
        · have := (List.pairwise_cons.1 hpw).1 k e; omega
    have : i ∈ Region.ready .any ops listed := by
      refine mem_rdy.2 ⟨by simpa using hmi.2, ops[i], by simp [hlt], fun e he hb => ?_⟩
      have hlt2 := (hall i ops[i] (by simp [hlt])).1 e he hb
      have := hleast e.on hlt2.1 hlt2.2
      have hsz2 : e.on < listed.size := by omega
      simp only [Array.getD_eq_getD_getElem?, Array.getElem?_eq_getElem hsz2, Option.getD_some] at this ⊢
      exact this
    rw [hnil] at this
    simp at this
theorem rdy_nil {listed : Array Bool} {t : Nat} (hi : (Region.ready .any ops listed)[t % (Region.ready .any ops listed).length]? = none) : Region.ready .any ops listed = [] := by
  cases hr' : Region.ready .any ops listed with
  | nil => rfl
  | cons x xs =>
    rw [hr'] at hi
    have hlt : t % (x :: xs).length < (x :: xs).length := Nat.mod_lt _ (by simp)
    rw [List.getElem?_eq_getElem hlt] at hi
    simp at hi
theorem unl_lt {can : List Nat} {listed : Array Bool} {j : Nat} (hsz : ∀ k ∈ can, k < listed.size) (hmem : j ∈ unlR can listed) : (unlR can (listed.setIfInBounds j true)).length < (unlR can listed).length := by
  rw [← unl_set hsz]
  rcases Nat.lt_or_ge ((unlR can listed).filter (· != j)).length (unlR can listed).length with h' | h'
  · exact h'
  · exfalso
    have heq := List.length_filter_eq_length_iff.1 (Nat.le_antisymm (List.length_filter_le _ _) h') j hmem
    simp at heq
theorem set_un {listed : Array Bool} {j k : Nat} (hsz : j < listed.size) : (listed.setIfInBounds j true).getD k true = false ↔ k ≠ j ∧ listed.getD k true = false := by
  by_cases e : k = j
  · subst e; simp [Array.getD_eq_getD_getElem?, Array.getElem?_setIfInBounds_self_of_lt hsz]
  · have e' : j ≠ k := fun h => e h.symm
    simp [Array.getD_eq_getD_getElem?, Array.getElem?_setIfInBounds_ne e', e]
/-- one of the pair is gone: the order left is enough -/
theorem lin_oneX {M : Array Nat} {rk : Nat → Nat} {a c : Nat} {can : List Nat} {K : Env → Heap → Prop} (hall : HallX P ops M rk a c) (hpw0 : can.Pairwise (fun a b => rk a < rk b)) (hcan : ∀ i, i ∈ can ↔ i < ops.size) :
    ∀ (fuel t : Nat) (listed : Array Bool), listed.size = ops.size → Closed ops listed → (unlR can listed).length ≤ fuel → ¬ (listed.getD a true = false ∧ listed.getD c true = false) → ∀ env h, regI P ops K (unlR can listed) env h → regI P ops K (Region.linearise.go .any ops fuel t listed []) env h := by
  intro fuel
  induction fuel with
  | zero =>
    intro t listed hsz hcl hlen _ env h hr
    have : unlR can listed = [] := List.eq_nil_of_length_eq_zero (by omega)
    rw [this] at hr
    simpa [Region.linearise.go] using hr
  | succ fuel ih =>
    intro t listed hsz hcl hlen hone env h hr
    simp only [Region.linearise.go]
    change regI P ops K (match (Region.ready .any ops listed)[t % (Region.ready .any ops listed).length]? with
      | some i => Region.linearise.go .any ops fuel (t / (Region.ready .any ops listed).length) (listed.setIfInBounds i true) [i]
      | none => [].reverse) env h
    have hin : ∀ k ∈ can, k < listed.size := fun k hk => by have := (hcan k).1 hk; omega
    cases hi : (Region.ready .any ops listed)[t % (Region.ready .any ops listed).length]? with
    | none =>
      rw [unl_nil hall hpw0 hcan hsz (rdy_nil hi)] at hr
      simpa using hr
    | some j =>
      simp only []
      rw [linearise_go_acc, List.reverse_singleton, List.singleton_append]
      obtain ⟨hjl, oj, hoj, hje⟩ := mem_rdy.1 (List.mem_of_getElem? hi)
      have hjlt : j < ops.size := by
        rcases Nat.lt_or_ge j ops.size with h' | h'
        · exact h'
        · simp [Array.getElem?_eq_none h'] at hoj
      have hmem : j ∈ unlR can listed := List.mem_filter.2 ⟨(hcan j).2 hjlt, by rw [hjl]; rfl⟩
      have hst := frontX hall hpw0 hcan hsz hcl hoj hjl hje (fun i hil _ => by
        cases hbb : badP a c i j with
        | false => rfl
        | true =>
          exfalso; apply hone
          simp only [badP, Bool.or_eq_true, Bool.and_eq_true, beq_iff_eq] at hbb
          rcases hbb with ⟨e1, e2⟩ | ⟨e1, e2⟩
          · rw [← e1, ← e2]; exact ⟨hil, hjl⟩
          · rw [← e1, ← e2]; exact ⟨hjl, hil⟩) env h hr
      refine ⟨oj, hoj, stepW_mono (fun env h hr => ?_) hst⟩
      exact ih _ _ (by simp [hsz]) (closed_set hsz hcl hoj hje) (by have := unl_lt hin hmem; omega) (fun q => hone ⟨((set_un (by omega)).1 q.1).2, ((set_un (by omega)).1 q.2).2⟩) env h hr
/-- a region in which the two operations a and c stand in either order -/
theorem lin_twoX {M : Array Nat} {r1 r2 : Nat → Nat} {a c : Nat} {can1 can2 : List Nat} {K : Env → Heap → Prop} (hall1 : HallX P ops M r1 a c) (hall2 : HallX P ops M r2 a c) (hpw1 : can1.Pairwise (fun a b => r1 a < r1 b)) (hpw2 : can2.Pairwise (fun a b => r2 a < r2 b)) (hcan1 : ∀ i, i ∈ can1 ↔ i < ops.size) (hcan2 : ∀ i, i ∈ can2 ↔ i < ops.size)
    (h1 : r1 c < r1 a) (h2 : r2 a < r2 c) (hq : ∀ j oj, ops[j]? = some oj → j = a ∨ j = c ∨ (cls P oj.op = 0 ∨ cls P oj.op = 1) ∨ (bitOf M j a = true ∧ r1 a < r1 j)) (hal : a < ops.size) :
    ∀ (fuel t : Nat) (listed : Array Bool), listed.size = ops.size → Closed ops listed → (unlR can1 listed).length ≤ fuel → (unlR can2 listed).length ≤ fuel → listed.getD a true = false → listed.getD c true = false → ∀ env h, regI P ops K (unlR can1 listed) env h → regI P ops K (unlR can2 listed) env h → regI P ops K (Region.linearise.go .any ops fuel t listed []) env h := by
  intro fuel
  induction fuel with
  | zero =>
    intro t listed hsz hcl hlen1 _ _ _ env h hr1 _
    have : unlR can1 listed = [] := List.eq_nil_of_length_eq_zero (by omega)
    rw [this] at hr1
    simpa [Region.linearise.go] using hr1
  | succ fuel ih =>
    intro t listed hsz hcl hlen1 hlen2 hla hlc env h hr1 hr2
    simp only [Region.linearise.go]
    change regI P ops K (match (Region.ready .any ops listed)[t % (Region.ready .any ops listed).length]? with
      | some i => Region.linearise.go .any ops fuel (t / (Region.ready .any ops listed).length) (listed.setIfInBounds i true) [i]
      | none => [].reverse) env h
    have hin1 : ∀ k ∈ can1, k < listed.size := fun k hk => by have := (hcan1 k).1 hk; omega
    have hin2 : ∀ k ∈ can2, k < listed.size := fun k hk => by have := (hcan2 k).1 hk; omega
    cases hi : (Region.ready .any ops listed)[t % (Region.ready .any ops listed).length]? with
    | none =>
      rw [unl_nil hall1 hpw1 hcan1 hsz (rdy_nil hi)] at hr1
      simpa using hr1
    | some j =>
      simp only []
      rw [linearise_go_acc, List.reverse_singleton, List.singleton_append]
      obtain ⟨hjl, oj, hoj, hje⟩ := mem_rdy.1 (List.mem_of_getElem? hi)
      have hjlt : j < ops.size := by
        rcases Nat.lt_or_ge j ops.size with h' | h'
        · exact h'
        · simp [Array.getElem?_eq_none h'] at hoj
      have hmem1 : j ∈ unlR can1 listed := List.mem_filter.2 ⟨(hcan1 j).2 hjlt, by rw [hjl]; rfl⟩
      have hmem2 : j ∈ unlR can2 listed := List.mem_filter.2 ⟨(hcan2 j).2 hjlt, by rw [hjl]; rfl⟩
      have hcl2 := closed_set hsz hcl hoj hje
      refine ⟨oj, hoj, ?_⟩
      by_cases ea : j = a
      · subst ea
        have hst := frontX hall2 hpw2 hcan2 hsz hcl hoj hjl hje (fun i hil hlt => by
          cases hbb : badP j c i j with
          | false => rfl
          | true =>
            exfalso
            simp only [badP, Bool.or_eq_true, Bool.and_eq_true, beq_iff_eq] at hbb
            rcases hbb with ⟨e1, e2⟩ | ⟨e1, _⟩
            · rw [e1] at hlt; omega
            · rw [e1] at hlt; omega) env h hr2
        refine stepW_mono (fun env h hr => ?_) hst
        exact lin_oneX hall2 hpw2 hcan2 _ _ _ (by simp [hsz]) hcl2 (by have := unl_lt hin2 hmem2; omega) (fun q => ((set_un (by omega)).1 q.1).1 rfl) env h hr
      · by_cases ec : j = c
        · subst ec
          have hst := frontX hall1 hpw1 hcan1 hsz hcl hoj hjl hje (fun i hil hlt => by
            cases hbb : badP a j i j with
            | false => rfl
            | true =>
              exfalso
              simp only [badP, Bool.or_eq_true, Bool.and_eq_true, beq_iff_eq] at hbb
              rcases hbb with ⟨e1, _⟩ | ⟨e1, _⟩
              · rw [e1] at hlt; omega
              · rw [e1] at hlt; omega) env h hr1
          refine stepW_mono (fun env h hr => ?_) hst
          exact lin_oneX hall1 hpw1 hcan1 _ _ _ (by simp [hsz]) hcl2 (by have := unl_lt hin1 hmem1; omega) (fun q => ((set_un (by omega)).1 q.2).1 rfl) env h hr
        · have hnb : ∀ i, badP a c i j = false := fun i => by simp [badP, ea, ec]
          have hst1 := frontX hall1 hpw1 hcan1 hsz hcl hoj hjl hje (fun i _ _ => hnb i) env h hr1
          have hst2 := frontX hall2 hpw2 hcan2 hsz hcl hoj hjl hje (fun i _ _ => hnb i) env h hr2
          have hqj : cls P oj.op = 0 ∨ cls P oj.op = 1 := by
            rcases hq j oj hoj with q | q | q | q
            · exact absurd q ea
            · exact absurd q ec
            · exact q
            · exfalso
              have := pre_listedX hall1 hcl (r1 j) j oj a ops[a] rfl hoj (by simp [hal]) q.2 q.1 hje
              have hsz2 : a < listed.size := by omega
              simp only [Array.getD_eq_getD_getElem?, Array.getElem?_eq_getElem hsz2, Option.getD_some] at this hla
              rw [this] at hla; simp at hla
          refine stepW_mono (fun env h hr => ?_) (stepW_and hqj hst1 hst2)
          exact ih _ _ (by simp [hsz]) hcl2 (by have := unl_lt hin1 hmem1; omega) (by have := unl_lt hin2 hmem2; omega) ((set_un (by omega)).2 ⟨fun e => ea e.symm, hla⟩) ((set_un (by omega)).2 ⟨fun e => ec e.symm, hlc⟩) env h hr.1 hr.2
def opChkX (P : Program) (ops : Array Oper) (M : Array Nat) (rk : Nat → Nat) (a c : Nat) (j : Nat) : Bool :=
  match ops[j]? with
  | none => true
  | some oj => (oj.after.all fun e => !Region.binds .any e || (decide (e.on < ops.size) && decide (rk e.on < rk j))) && (List.range ops.size).all fun i => match ops[i]? with
    | none => true
    | some oi => !decide (rk i < rk j) || pairChkX P ops M rk a c oi oj i j
def canChk (P : Program) (ops : Array Oper) (rkA : Array Nat) (can : List Nat) (a c : Nat) : Bool :=
  pwChk (fun i => rkA.getD i 0) can && (can.all fun i => decide (i < ops.size)) && ((List.range ops.size).all fun i => can.contains i) && (List.range ops.size).all fun j => opChkX P ops (Region.before ops) (fun i => rkA.getD i 0) a c j
def okRegX (P : Program) (n : Nat) (ops : Array Oper) (rA1 : Array Nat) (can1 : List Nat) (rA2 : Array Nat) (can2 : List Nat) (a c : Nat) : Bool :=
  (ops.toList.all fun o => match o.dst with | some d => decide (d < n) | none => true) && canChk P ops rA1 can1 a c && canChk P ops rA2 can2 a c && decide (rA1.getD c 0 < rA1.getD a 0) && decide (rA2.getD a 0 < rA2.getD c 0) && decide (a < ops.size) && decide (c < ops.size)
    && (List.range ops.size).all fun j => match ops[j]? with
      | none => true
      | some oj => j == a || j == c || cls P oj.op == 0 || cls P oj.op == 1 || (bitOf (Region.before ops) j a && decide (rA1.getD a 0 < rA1.getD j 0))
theorem canChk_spec {rkA : Array Nat} {can : List Nat} {a c : Nat} (ok : canChk P ops rkA can a c = true) : HallX P ops (Region.before ops) (fun i => rkA.getD i 0) a c ∧ can.Pairwise (fun a b => rkA.getD a 0 < rkA.getD b 0) ∧ ∀ i, i ∈ can ↔ i < ops.size := by
  simp only [canChk, Bool.and_eq_true, List.all_eq_true, decide_eq_true_eq, List.contains_iff_mem, List.mem_range] at ok
  obtain ⟨⟨⟨ok3, ok4⟩, ok5⟩, ok6⟩ := ok
  refine ⟨fun j oj hj => ?_, pwChk_spec can ok3, fun i => ⟨ok4 i, ok5 i⟩⟩
  have hjs : j < ops.size := by
    rcases Nat.lt_or_ge j ops.size with h' | h'
    · exact h'
    · simp [Array.getElem?_eq_none h'] at hj
  have := ok6 j hjs
  simp only [opChkX, hj, Bool.and_eq_true] at this
  refine ⟨fun e he hb => ?_, fun i oi hi hlt => ?_⟩
  · have h1 := Array.all_eq_true'.1 this.1 e he
    simpa [hb] using h1
  · have his : i < ops.size := by
      rcases Nat.lt_or_ge i ops.size with h' | h'
      · exact h'
      · simp [Array.getElem?_eq_none h'] at hi
    have h1 := List.all_eq_true.1 this.2 i (List.mem_range.2 his)
    simp only [hi, Bool.or_eq_true, Bool.not_eq_true', decide_eq_false_iff_not] at h1
    rcases h1 with h1 | h1
    · exact absurd hlt h1
    · exact h1
theorem unl_all {can : List Nat} (hcan : ∀ i, i ∈ can ↔ i < ops.size) : unlR can (Array.replicate ops.size false) = can := by
  unfold unlR
  rw [List.filter_eq_self]
  intro i hi
  have := (hcan i).1 hi
  simp [Array.getD_eq_getD_getElem?, this]
theorem can_len {rk : Nat → Nat} {can : List Nat} (hpw : can.Pairwise (fun a b => rk a < rk b)) (hcan : ∀ i, i ∈ can ↔ i < ops.size) : can.length ≤ ops.size := by
  have hnd : can.Nodup := Go.Eng.pw_of (fun h e => by subst e; omega) hpw
  have := hnd.length_le_of_subset (l₂ := List.range ops.size) (fun i hi => List.mem_range.2 ((hcan i).1 hi))
  simpa using this
theorem W_regionX {n : Nat} {Q : Exit → Env → Heap → Prop} {env : Env} {h : Heap} {id : Nat} {rA1 rA2 : Array Nat} {can1 can2 : List Nat} {a c : Nat} (hm : P.follows .mixedOrders = true) (ok : okRegX P n ops rA1 can1 rA2 can2 a c = true) (hr1 : regI P ops (Q .normal) can1 env h) (hr2 : regI P ops (Q .normal) can2 env h) : W P n (.region id ops true) Q env h := by
  intro w0 d act hs
  simp only [okRegX, Bool.and_eq_true, decide_eq_true_eq] at ok
  obtain ⟨⟨⟨⟨⟨⟨⟨ok1, k1⟩, k2⟩, k3⟩, k4⟩, k5⟩, k5c⟩, k6⟩ := ok
  obtain ⟨a1, a2, a3⟩ := canChk_spec k1
  obtain ⟨b1, b2, b3⟩ := canChk_spec k2
  have hd : ∀ o ∈ ops.toList, ∀ d, o.dst = some d → d < n := fun o ho d hd => by
    have := List.all_eq_true.1 ok1 o ho
    simpa [hd] using this
  have hq : ∀ j oj, ops[j]? = some oj → j = a ∨ j = c ∨ (cls P oj.op = 0 ∨ cls P oj.op = 1) ∨ (bitOf (Region.before ops) j a = true ∧ rA1.getD a 0 < rA1.getD j 0) := fun j oj hj => by
    have hjs : j < ops.size := by
      rcases Nat.lt_or_ge j ops.size with h' | h'
      · exact h'
      · simp [Array.getElem?_eq_none h'] at hj
    have := List.all_eq_true.1 k6 j (List.mem_range.2 hjs)
    simp only [hj, Bool.or_eq_true, beq_iff_eq, Bool.and_eq_true, decide_eq_true_eq] at this
    rcases this with (((q | q) | q) | q) | q
    · exact .inl q
    · exact .inr (.inl q)
    · exact .inr (.inr (.inl (.inl q)))
    · exact .inr (.inr (.inl (.inr q)))
    · exact .inr (.inr (.inr q))
  refine wp_region_draw fun t => ?_
  simp only [Region.schedule, hm, Bool.true_or, if_true]
  have hl := lin_twoX (K := Q .normal) a1 b1 a2 b2 a3 b3 k3 k4 hq k5 ops.size t (Array.replicate ops.size false) (by simp) (fun k o hk hkl => by
    exfalso
    simp only [Array.getD_eq_getD_getElem?, Array.getElem?_replicate] at hkl
    split at hkl <;> simp at hkl) (by rw [unl_all a3]; exact can_len a2 a3) (by rw [unl_all b3]; exact can_len b2 b3) (by simp [Array.getD_eq_getD_getElem?, k5]) (by simp [Array.getD_eq_getD_getElem?, k5c]) env h (by rw [unl_all a3]; exact hr1) (by rw [unl_all b3]; exact hr2)
  exact regI_sound (Q := lift w0 n Q) (w0 := w0) hd (fun env h a d s hk => ⟨env, h, d, s, rfl, hk⟩) _ env h act (d + 1) hs hl
end two
section frames
variable {P : Program} {ops : List Oper} {l : Fr} {h : Heap}
theorem regL_isAt {K : Env → Heap → Prop} : ∀ (r : List Nat) (os : List Oper), isAt ops r os → ∀ env h, regL P ops.toArray K os env h → regI P ops.toArray K r env h
  | [], [], _, env, h, hr => hr
  | [], _ :: _, ha, _, _, _ => ha.elim
  | _ :: _, [], ha, _, _, _ => ha.elim
  | i :: r, o :: os, ha, env, h, hr => ⟨o, by simpa using ha.1, stepW_mono (regL_isAt r os ha.2) hr⟩
theorem V_regX {n : Nat} {N R : Ko} {X : List (Nat × Ko)} {id : Nat} (rA1 : Array Nat) (can1 : List Nat) (rA2 : Array Nat) (can2 : List Nat) (a c : Nat) (hm : P.follows .mixedOrders = true) (ok : okRegX P n ops.toArray rA1 can1 rA2 can2 a c = true)
    (hr : S P ops N (pickL ops can1) l h ∧ S P ops N (pickL ops can2) l h) : V P n (.region id ops.toArray true) N R X l h := by
  have hin : ∀ can : List Nat, (∀ i, i ∈ can ↔ i < ops.toArray.size) → ∀ i ∈ can, i < ops.length := fun can hc i hi => by simpa using (hc i).1 hi
  have ok2 := ok
  simp only [okRegX, Bool.and_eq_true] at ok2
  have c1 := (canChk_spec ok2.1.1.1.1.1.1.2).2.2
  have c2 := (canChk_spec ok2.1.1.1.1.1.2).2.2
  exact W_regionX hm ok (regL_isAt can1 _ (isAt_pick can1 (hin can1 c1)) _ _ hr.1) (regL_isAt can2 _ (isAt_pick can2 (hin can2 c2)) _ _ hr.2)
theorem V_srX {n : Nat} {N R : Ko} {X : List (Nat × Ko)} {id : Nat} {y : Code} (rA1 : Array Nat) (can1 : List Nat) (rA2 : Array Nat) (can2 : List Nat) (a c : Nat) (hm : P.follows .mixedOrders = true) (ok : okRegX P n ops.toArray rA1 can1 rA2 can2 a c = true)
    (hr : ∀ K : Ko, (∀ l h, V P n y N R X l h → K l h) → S P ops K (pickL ops can1) l h ∧ S P ops K (pickL ops can2) l h) : V P n (.seq (.region id ops.toArray true) y) N R X l h :=
  V_seq fun K hK => V_regX rA1 can1 rA2 can2 a c hm ok (hr K hK)
end frames
end Go.Eng
