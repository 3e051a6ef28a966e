import Derived.Test.Qxb6500404aGreatLp
set_option linter.unusedVariables false
set_option linter.unusedSimpArgs false
namespace Go.Lz
open Go.Eng

structure Tok where
  len : Int
  dist : Int
  lit : Int
/-- the token at place i, and how far it goes -/
def later (s : ByteArray) (level : Int) (i : Nat) : Bool := decide (level = 2 ∧ (bestF s i).1 ≠ 0 ∧ (bestF s i).1 < 10 ∧ (bestF s i).1 < (bestF s (i + 1)).1)
def nF (s : ByteArray) (level : Int) (i : Nat) : Nat := if level = 0 ∨ later s level i = true then 0 else (bestF s i).1
def tokF (s : ByteArray) (level : Int) (i : Nat) : Tok := if nF s level i = 0 then ⟨0, 0, bAt s i⟩ else ⟨nF s level i, (bestF s i).2, 0⟩
def advF (s : ByteArray) (level : Int) (i : Nat) : Nat := if nF s level i = 0 then 1 else nF s level i
def parseF (s : ByteArray) (level : Int) : Nat → Nat → List Tok
  | 0, _ => []
  | f + 1, i => if i < s.size then tokF s level i :: parseF s level f (i + advF s level i) else []
def toks (s : ByteArray) (level : Int) : List Tok := parseF s level s.size 0

theorem nF_pos {s : ByteArray} {level : Int} {i : Nat} (h : nF s level i ≠ 0) : nF s level i = (bestF s i).1 ∧ level ≠ 0 ∧ later s level i = false := by
  unfold nF at *
  split at h
  · simp at h
  · rename_i hn; rw [if_neg hn]; simp at hn; exact ⟨rfl, hn.1, hn.2⟩
theorem nF_le (s : ByteArray) (level : Int) (i : Nat) : nF s level i ≤ 10 := by
  by_cases h : nF s level i = 0
  · omega
  · have h1 := nF_pos h
    have := best_range (s := s) (i := i) (by omega)
    omega
theorem adv_pos (s : ByteArray) (level : Int) (i : Nat) : 1 ≤ advF s level i := by unfold advF; split <;> omega
theorem adv_le {s : ByteArray} {level : Int} {i : Nat} (h : i < s.size) : i + advF s level i ≤ s.size := by
  unfold advF
  split
  · omega
  · rename_i hn
    have h1 := nF_pos hn
    have := best_range (s := s) (i := i) (by omega)
    omega

/-- T has been laid, the text stands at i -/
structure Pre (s : ByteArray) (level : Int) (T : List Tok) (i : Nat) : Prop where
  join : ∃ f, T ++ parseF s level f i = toks s level ∧ s.size - i ≤ f
  len : T.length ≤ i
  le : i ≤ s.size
theorem pre_start (s : ByteArray) (level : Int) : Pre s level [] 0 := ⟨⟨s.size, rfl, by omega⟩, by simp, by omega⟩
theorem pre_step {s : ByteArray} {level : Int} {T : List Tok} {i : Nat} (h : Pre s level T i) (hi : i < s.size) : Pre s level (T ++ [tokF s level i]) (i + advF s level i) := by
  obtain ⟨⟨f, h1, h2⟩, h3, h4⟩ := h
  have ha := adv_pos s level i
  have hb := adv_le (level := level) hi
  cases f with
  | zero => omega
  | succ f =>
    simp only [parseF, hi, if_true] at h1
    exact ⟨⟨f, by simpa using h1, by omega⟩, by simp; omega, hb⟩
theorem parse_nil (s : ByteArray) (level : Int) (i : Nat) (h : s.size ≤ i) : ∀ f, parseF s level f i = []
  | 0 => rfl
  | f + 1 => by simp only [parseF]; rw [if_neg (by omega)]
theorem pre_end {s : ByteArray} {level : Int} {T : List Tok} {i : Nat} (h : Pre s level T i) (hi : ¬ i < s.size) : T = toks s level ∧ i = s.size := by
  obtain ⟨⟨f, h1, h2⟩, h3, h4⟩ := h
  rw [parse_nil s level i (by omega), List.append_nil] at h1
  exact ⟨h1, by omega⟩
theorem toks_len (s : ByteArray) (level : Int) : (toks s level).length ≤ s.size := by
  have : ∀ n i, i + n = s.size → ∀ T, Pre s level T i → (toks s level).length ≤ s.size := by
    intro n
    induction n using Nat.strongRecOn with
    | _ n ih =>
      intro i hi T hp
      by_cases h : i < s.size
      · have := pre_step hp h
        have ha := adv_pos s level i
        have hb := adv_le (level := level) h
        exact ih (s.size - (i + advF s level i)) (by omega) _ (by omega) _ this
      · obtain ⟨e1, e2⟩ := pre_end hp h
        have := hp.len
        rw [← e1]; omega
  exact this s.size 0 (by omega) [] (pre_start s level)

/-! ### the lid -/
/-- the rooms of a token that begins at p -/
def costF (s : ByteArray) (level : Int) (t : Tok) (p : Nat) : Nat := roomF s p + if t.len ≠ 0 ∧ level = 2 ∧ t.len < 10 then roomF s (p + 1) else 0
def goF (t : Tok) (p : Nat) : Nat := if t.len = 0 then p + 1 else (p + t.len).toNat
def lidF (s : ByteArray) (level : Int) : List Tok → Nat → Nat
  | [], _ => 0
  | t :: r, p => costF s level t p + lidF s level r (goF t p)
def endF : List Tok → Nat → Nat
  | [], p => p
  | t :: r, p => endF r (goF t p)
theorem lid_snoc (s : ByteArray) (level : Int) (t : Tok) : ∀ (T : List Tok) (p : Nat), lidF s level (T ++ [t]) p = lidF s level T p + costF s level t (endF T p)
  | [], p => by simp [lidF, endF]
  | u :: T, p => by simp only [List.cons_append, lidF, endF, lid_snoc s level t T]; omega
theorem end_snoc (t : Tok) : ∀ (T : List Tok) (p : Nat), endF (T ++ [t]) p = goF t (endF T p)
  | [], p => by simp [endF]
  | u :: T, p => by simp only [List.cons_append, endF, end_snoc t T]
theorem go_tok (s : ByteArray) (level : Int) (i : Nat) : goF (tokF s level i) i = i + advF s level i := by
  unfold goF tokF advF
  split
  · simp
  · rename_i hn
    simp only []
    rw [if_neg (by omega)]
    omega
theorem room_le (s : ByteArray) (i : Nat) : roomF s i ≤ 16 := by
  have hk : ∀ d, cnt s i d ≤ d := by
    intro d
    induction d with
    | zero => exact Nat.le_refl _
    | succ d ih => simp only [cnt]; split <;> omega
  have := hk 16
  unfold roomF
  split <;> omega
theorem cost_le (s : ByteArray) (level : Int) (t : Tok) (p : Nat) : costF s level t p ≤ 32 := by
  have hk : ∀ i d, cnt s i d ≤ d := by
    intro i d
    induction d with
    | zero => exact Nat.le_refl _
    | succ d ih => simp only [cnt]; split <;> omega
  have h1 := hk p 16; have h2 := hk (p + 1) 16
  unfold costF roomF
  split <;> split <;> (try split) <;> omega
theorem lid_le (s : ByteArray) (level : Int) : ∀ (T : List Tok) (p : Nat), lidF s level T p ≤ 32 * T.length
  | [], p => by simp [lidF]
  | t :: T, p => by
    have h1 := cost_le s level t p; have h2 := lid_le s level T (goF t p)
    simp only [lidF, List.length_cons]; omega

/-- tokens in cells -/
def fl (T : List Tok) (j : Nat) : Int :=
  match T[j / 3]? with
  | some t => if j % 3 = 0 then t.len else if j % 3 = 1 then t.dist else t.lit
  | none => 0
theorem fl_at (T : List Tok) (k : Nat) (hk : k < T.length) : fl T (k * 3) = T[k].len ∧ fl T (k * 3 + 1) = T[k].dist ∧ fl T (k * 3 + 2) = T[k].lit := by
  refine ⟨?_, ?_, ?_⟩
  · simp only [fl]; rw [show k * 3 / 3 = k by omega, show k * 3 % 3 = 0 by omega]; simp [hk]
  · simp only [fl]; rw [show (k * 3 + 1) / 3 = k by omega, show (k * 3 + 1) % 3 = 1 by omega]; simp [hk]
  · simp only [fl]; rw [show (k * 3 + 2) / 3 = k by omega, show (k * 3 + 2) % 3 = 2 by omega]; simp [hk]
def updT (f : Nat → Int) (k : Nat) (a b c : Int) : Nat → Int := upd (upd (upd f (k * 3) a) (k * 3 + 1) b) (k * 3 + 2) c
/-- the first cells of f are T's -/
def TkL (f : Nat → Int) (T : List Tok) : Prop := ∀ j, j < T.length * 3 → f j = fl T j
theorem tkl_nil (f : Nat → Int) : TkL f [] := fun j hj => by simp at hj
theorem fl_append (T : List Tok) (t : Tok) (j : Nat) (hj : j < T.length * 3) : fl (T ++ [t]) j = fl T j := by
  simp only [fl]
  rw [List.getElem?_append_left (by omega)]
theorem tkl_snoc {f : Nat → Int} {T : List Tok} (t : Tok) (h : TkL f T) : TkL (updT f T.length t.len t.dist t.lit) (T ++ [t]) := by
  intro j hj
  simp only [List.length_append, List.length_cons, List.length_nil] at hj
  by_cases hlt : j < T.length * 3
  · rw [fl_append T t j hlt]
    simp only [updT, upd]
    rw [if_neg (by omega), if_neg (by omega), if_neg (by omega)]
    exact h j hlt
  · have e := fl_at (T ++ [t]) T.length (by simp)
    simp only [List.getElem_append_right (Nat.le_refl _), Nat.sub_self, List.getElem_cons_zero] at e
    simp only [updT, upd]
    rcases (show j = T.length * 3 ∨ j = T.length * 3 + 1 ∨ j = T.length * 3 + 2 by omega) with hh | hh | hh <;> subst hh
    · rw [if_neg (by omega), if_neg (by omega), if_pos rfl]; exact e.1.symm
    · rw [if_neg (by omega), if_pos rfl]; exact e.2.1.symm
    · rw [if_pos rfl]; exact e.2.2.symm

theorem tok0 (s : ByteArray) (i : Nat) : tokF s 0 i = ⟨0, 0, bAt s i⟩ ∧ advF s 0 i = 1 := by
  have : nF s 0 i = 0 := by unfold nF; simp
  simp [tokF, advF, this]
theorem nF1 (s : ByteArray) (i : Nat) : nF s 1 i = (bestF s i).1 := by
  unfold nF later
  rw [if_neg]
  simp
theorem nF2_low (s : ByteArray) (i : Nat) (h : ¬ ((bestF s i).1 ≠ 0 ∧ (bestF s i).1 < 10 ∧ (bestF s i).1 < (bestF s (i + 1)).1)) : nF s 2 i = (bestF s i).1 := by
  unfold nF later
  rw [if_neg]
  simp
  intro a b
  omega
theorem nF2_late (s : ByteArray) (i : Nat) (h : (bestF s i).1 ≠ 0 ∧ (bestF s i).1 < 10 ∧ (bestF s i).1 < (bestF s (i + 1)).1) : nF s 2 i = 0 := by
  unfold nF later
  rw [if_pos]
  right
  simp
  exact h
theorem tok_lit {s : ByteArray} {level : Int} {i : Nat} (h : nF s level i = 0) : tokF s level i = ⟨0, 0, bAt s i⟩ ∧ advF s level i = 1 := by simp [tokF, advF, h]
theorem tok_dup {s : ByteArray} {level : Int} {i : Nat} (h : nF s level i = (bestF s i).1) (h0 : (bestF s i).1 ≠ 0) : tokF s level i = ⟨(bestF s i).1, (bestF s i).2, 0⟩ ∧ advF s level i = (bestF s i).1 := by simp [tokF, advF, h, h0]

/-- the cells of a list of tokens -/
def cellsOf (ts : List Tok) : List Value := ts.flatMap fun t => [.int .i64 t.len, .int .i64 t.dist, .int .i64 t.lit]
theorem cellsOf_len : ∀ ts : List Tok, (cellsOf ts).length = ts.length * 3
  | [] => rfl
  | t :: ts => by
    have := cellsOf_len ts
    simp only [cellsOf, List.flatMap_cons, List.length_append, List.length_cons, List.length_nil] at this ⊢
    omega
theorem cellsOf_snoc (ts : List Tok) (t : Tok) : cellsOf (ts ++ [t]) = cellsOf ts ++ [.int .i64 t.len, .int .i64 t.dist, .int .i64 t.lit] := by simp [cellsOf]
theorem fl_cons (t : Tok) (ts : List Tok) (j : Nat) : fl (t :: ts) (j + 3) = fl ts j := by
  simp only [fl]
  rw [show (j + 3) / 3 = j / 3 + 1 by omega, show (j + 3) % 3 = j % 3 by omega, List.getElem?_cons_succ]
theorem cellsOf_get : ∀ (ts : List Tok) (j : Nat), j < ts.length * 3 → (cellsOf ts)[j]? = some (.int .i64 (fl ts j))
  | [], j, h => by simp at h
  | t :: ts, 0, h => rfl
  | t :: ts, 1, h => rfl
  | t :: ts, 2, h => rfl
  | t :: ts, j + 3, h => by
    have := cellsOf_get ts j (by simp at h; omega)
    rw [fl_cons]
    simpa [cellsOf] using this
theorem cellsOf_one (ts : List Tok) : ∀ v ∈ cellsOf ts, v.oneCell' = true := by
  intro v hv
  simp only [cellsOf, List.mem_flatMap] at hv
  obtain ⟨t, _, hv⟩ := hv
  simp at hv
  rcases hv with h | h | h <;> subst h <;> rfl

/-! ### what tokens mean -/
def byt (s : ByteArray) (p : Nat) : List Int := (List.range p).map fun j => (bAt s j : Int)
theorem byt_len (s : ByteArray) (p : Nat) : (byt s p).length = p := by simp [byt]
theorem byt_succ (s : ByteArray) (p : Nat) : byt s (p + 1) = byt s p ++ [(bAt s p : Int)] := by simp [byt, List.range_succ]
theorem u8s_snoc (l : List Int) (n : Int) : u8s (l ++ [n]) = u8s l ++ [.int .u8 n] := by simp [u8s]
theorem u8s_len (l : List Int) : (u8s l).length = l.length := by simp [u8s]
theorem byt_get (s : ByteArray) (p j : Nat) (h : j < p) : (u8s (byt s p))[j]? = some (.int .u8 (bAt s j)) := by simp [u8s, byt, h]
theorem mkS_byt (s : ByteArray) : mkS (byt s s.size) = s := by
  have : (mkS (byt s s.size)).data = s.data := by
    apply Array.ext
    · simp [mkS, byt]
    · intro j h1 h2
      simp [mkS, byt, bAt]
      rw [Array.getElem?_eq_getElem h2]
      simp
  cases s
  simpa [mkS] using this
theorem pre_next {s : ByteArray} {level : Int} {k p : Nat} (h : Pre s level ((toks s level).take k) p) (hk : k < (toks s level).length) : p < s.size ∧ (toks s level)[k] = tokF s level p ∧ Pre s level ((toks s level).take (k + 1)) (p + advF s level p) := by
  have hp : p < s.size := by
    rcases Nat.lt_or_ge p s.size with h' | h'
    · exact h'
    · have := (pre_end h (by omega)).1
      have h2 := congrArg List.length this
      rw [List.length_take] at h2
      omega
  have he : (toks s level)[k] = tokF s level p := by
    obtain ⟨f, h1, h2⟩ := h.join
    cases f with
    | zero => omega
    | succ f =>
      simp only [parseF, hp, if_true] at h1
      have hl : ((toks s level).take k).length = k := by rw [List.length_take]; omega
      have h3 : (toks s level)[k]? = some (tokF s level p) := by
        rw [← h1, List.getElem?_append_right (by omega), hl, Nat.sub_self]; rfl
      rw [List.getElem?_eq_getElem hk] at h3
      simpa using h3
  refine ⟨hp, he, ?_⟩
  have := pre_step h hp
  rw [← he] at this
  rwa [List.take_append_getElem] at this
theorem pre_all {s : ByteArray} {level : Int} {p : Nat} (h : Pre s level (toks s level) p) : p = s.size := by
  rcases Nat.lt_or_ge p s.size with h' | h'
  · exfalso
    obtain ⟨f, h1, h2⟩ := h.join
    cases f with
    | zero => omega
    | succ f =>
      simp only [parseF, h', if_true] at h1
      have := congrArg List.length h1
      simp at this
  · have := h.le; omega

/-! ### a text of equal bytes -/
def One (s : ByteArray) : Prop := ∀ j, j < s.size → bAt s j = bAt s 0
theorem one_best {s : ByteArray} (h : One s) {i : Nat} (hi : 1 ≤ i) : bestF s i = if limF s i < 3 then (0, 0) else (limF s i, 1) := by
  have hl : limF s i ≤ s.size - i := by unfold limF; omega
  have hsp : spanF s (i - 1) i (limF s i) = limF s i := span_uniq (Nat.le_refl _) (fun j hj => by rw [h (i - 1 + j) (by omega), h (i + j) (by omega)]) (.inl rfl)
  by_cases h0 : limF s i = 0
  · rw [if_pos (by omega)]
    unfold bestF
    rw [if_pos]
    have := bestTo_le s i (min 16 i); omega
  · have h1 : bestTo s i 1 = (limF s i, 1) := by
      have e : bestTo s i (0 + 1) = if (bestTo s i 0).1 < spanF s (i - (0 + 1)) i (limF s i) then (spanF s (i - (0 + 1)) i (limF s i), 0 + 1) else bestTo s i 0 := rfl
      rw [show i - (0 + 1) = i - 1 by omega, hsp, if_pos (by show 0 < _; omega)] at e
      exact e
    have h2 : bestTo s i (min 16 i) = (limF s i, 1) := by
      rw [← h1]; exact norm_full (by rw [h1]; exact Nat.le_refl _) (by omega)
    unfold bestF
    rw [h2]
theorem one_adv {s : ByteArray} (h : One s) {i : Nat} (hi : 1 ≤ i) {level : Int} (hl : level ≠ 0) : advF s level i = if limF s i < 3 then 1 else limF s i := by
  have h1 := one_best h hi
  have h2 := one_best h (show 1 ≤ i + 1 by omega)
  have hlim : limF s (i + 1) ≤ limF s i := by unfold limF; omega
  have hn : nF s level i = (bestF s i).1 := by
    unfold nF later
    rw [if_neg]
    simp only [hl, false_or, decide_eq_true_eq]
    rintro ⟨_, _, _, hlt⟩
    rw [h1, h2] at hlt
    split at hlt <;> split at hlt <;> simp at hlt <;> omega
  unfold advF
  rw [hn, h1]
  split
  · simp
  · simp; omega
theorem one_len {s : ByteArray} (h : One s) {level : Int} (hl : level ≠ 0) : ∀ (f i : Nat), 1 ≤ i → (parseF s level f i).length ≤ (s.size - i) / 10 + min 2 (s.size - i)
  | 0, i, _ => by simp [parseF]
  | f + 1, i, hi => by
    simp only [parseF]
    split
    · rename_i hlt
      have hn := adv_pos s level i
      have ih := one_len h hl f (i + advF s level i) (by omega)
      have ha := one_adv h hi hl
      have hlim : limF s i = min 10 (s.size - i) := rfl
      simp only [List.length_cons]
      split at ha <;> omega
    · simp
theorem one_bound {s : ByteArray} (h : One s) {level : Int} (hl : level ≠ 0) : (toks s level).length ≤ 3 + s.size / 10 := by
  unfold toks
  cases hs : s.size with
  | zero => simp [parseF]
  | succ n =>
    have hb0 : bestF s 0 = (0, 0) := rfl
    have ha : advF s level 0 = 1 := by
      have : nF s level 0 = 0 := by unfold nF; rw [hb0]; simp
      simp [advF, this]
    simp only [parseF, hs, Nat.zero_lt_succ, if_true, List.length_cons, ha]
    have := one_len h hl n (0 + 1) (by omega)
    omega

/-! ### the lid, token by token -/
theorem lid_take {s : ByteArray} {level : Int} {k : Nat} (hk : k < (toks s level).length) : lidF s level ((toks s level).take (k + 1)) 0 = lidF s level ((toks s level).take k) 0 + costF s level (toks s level)[k] (endF ((toks s level).take k) 0) := by
  rw [← lid_snoc, List.take_append_getElem]
theorem end_take {s : ByteArray} {level : Int} {k : Nat} (hk : k < (toks s level).length) : endF ((toks s level).take (k + 1)) 0 = goF (toks s level)[k] (endF ((toks s level).take k) 0) := by
  rw [← end_snoc, List.take_append_getElem]

end Go.Lz
