import Derived.Test.Qxb6500404aGreatTa
set_option linter.unusedVariables false
set_option linter.unusedSimpArgs false
namespace Go.Arc
open Go.Bits Go.Huf Go.Blk
open Go.Lz (byt)
open Go.Eng (bAt mkS)
/-! ### the check sum -/
def sf (p : Nat × Nat) (c : Int) : Nat × Nat := ((p.1 + c.toNat) % 251, (p.2 + (p.1 + c.toNat) % 251) % 251)
def smS (l : List Int) : Nat × Nat := l.foldl sf (1, 0)
def smL (l : List Int) : Nat := (smS l).2 * 256 + (smS l).1
theorem smS_snoc (l : List Int) (c : Int) : smS (l ++ [c]) = sf (smS l) c := by simp [smS, List.foldl_append]
theorem fold_le : ∀ (l : List Int) (p : Nat × Nat), p.1 ≤ 250 → p.2 ≤ 250 → (l.foldl sf p).1 ≤ 250 ∧ (l.foldl sf p).2 ≤ 250
  | [], p, h1, h2 => ⟨h1, h2⟩
  | c :: t, p, h1, h2 => fold_le t (sf p c) (by unfold sf; simp only []; omega) (by unfold sf; simp only []; omega)
theorem smS_le (l : List Int) : (smS l).1 ≤ 250 ∧ (smS l).2 ≤ 250 := fold_le l (1, 0) (by decide) (by decide)
theorem smL_lt (l : List Int) : smL l < 65536 := by
  have h := smS_le l
  unfold smL; omega
def bz (u : ByteArray) : List Int := byt u u.size
theorem bz_len (u : ByteArray) : (bz u).length = u.size := Lz.byt_len _ _
theorem mkS_bz (u : ByteArray) : mkS (bz u) = u := Lz.mkS_byt u
def smF (u : ByteArray) : Nat := smL (bz u)
/-! ### the list of entries -/
abbrev En := ByteArray × ByteArray
def ga (E : List En) (i : Nat) : En := E.getD i (⟨#[]⟩, ⟨#[]⟩)
theorem ga_drop {E : List En} {i : Nat} (h : i < E.length) : E.drop i = ga E i :: E.drop (i + 1) := by
  rw [List.drop_eq_getElem_cons h]; unfold ga; rw [List.getD_eq_getElem?_getD, List.getElem?_eq_getElem h]; rfl
theorem ga_take {E : List En} {i : Nat} (h : i < E.length) : E.take (i + 1) = E.take i ++ [ga E i] := by
  rw [List.take_add_one, List.getElem?_eq_getElem h]; unfold ga; rw [List.getD_eq_getElem?_getD, List.getElem?_eq_getElem h]; rfl
theorem ga_mem {E : List En} {i : Nat} (h : i < E.length) : ga E i ∈ E := by
  unfold ga; rw [List.getD_eq_getElem?_getD, List.getElem?_eq_getElem h]; simp
def ckL : List En → Nat
  | [] => 0
  | x :: t => if x.1.size = 0 ∨ 8 < x.1.size then 16 else if 256 < x.2.size then 1 else ckL t
def ckF (E : List En) (lv : Int) : Nat := if 4 < E.length then 17 else if lv < 0 ∨ 2 < lv then 13 else ckL E
theorem ckL_at : ∀ {E : List En}, ckL E = 0 → ∀ x ∈ E, 1 ≤ x.1.size ∧ x.1.size ≤ 8 ∧ x.2.size ≤ 256
  | [], _, x, hx => by cases hx
  | y :: t, h, x, hx => by
    unfold ckL at h
    by_cases c : y.1.size = 0 ∨ 8 < y.1.size
    · rw [if_pos c] at h; cases h
    · rw [if_neg c] at h
      by_cases d : 256 < y.2.size
      · rw [if_pos d] at h; cases h
      · rw [if_neg d] at h
        rcases List.mem_cons.1 hx with rfl | hx
        · omega
        · exact ckL_at h x hx
theorem ckF_ok {E : List En} {lv : Int} (h : ckF E lv = 0) : E.length ≤ 4 ∧ 0 ≤ lv ∧ lv ≤ 2 ∧ ckL E = 0 := by
  unfold ckF at h
  by_cases c : 4 < E.length
  · rw [if_pos c] at h; cases h
  · rw [if_neg c] at h
    by_cases d : lv < 0 ∨ 2 < lv
    · rw [if_pos d] at h; cases h
    · rw [if_neg d] at h; exact ⟨by omega, by omega, by omega, h⟩
/-! ### the archive's text -/
def t2 (n : Nat) : List Int := [((n % 256 : Nat) : Int), ((n / 256 % 256 : Nat) : Int)]
def rcd (lv : Int) (x : En) : List Int := [((x.1.size : Nat) : Int)] ++ bz x.1 ++ t2 x.2.size ++ t2 (pkF x.2 lv).size ++ t2 (smF x.2) ++ bz (pkF x.2 lv)
def rcs (lv : Int) : List En → List Int
  | [] => []
  | x :: t => rcd lv x ++ rcs lv t
theorem rcs_app (lv : Int) : ∀ a b : List En, rcs lv (a ++ b) = rcs lv a ++ rcs lv b
  | [], b => rfl
  | x :: t, b => by simp [rcs, rcs_app lv t b]
theorem rcs_one (lv : Int) (x : En) : rcs lv [x] = rcd lv x := by simp [rcs]
theorem rcd_len (lv : Int) (x : En) : (rcd lv x).length = x.1.size + 7 + (pkF x.2 lv).size := by
  unfold rcd t2; simp only [List.length_append, bz_len, List.length_cons, List.length_nil]; omega
def ofs (lv : Int) (E : List En) (i : Nat) : Nat := (rcs lv (E.take i)).length
theorem ofs_succ {lv : Int} {E : List En} {i : Nat} (h : i < E.length) : ofs lv E (i + 1) = ofs lv E i + (ga E i).1.size + 7 + (pkF (ga E i).2 lv).size := by
  unfold ofs; rw [ga_take h, rcs_app, List.length_append, rcs_one, rcd_len]; omega
theorem rcs_split {lv : Int} {E : List En} {i : Nat} (h : i < E.length) : rcs lv E = rcs lv (E.take i) ++ (rcd lv (ga E i) ++ rcs lv (E.drop (i + 1))) := by
  have : E = E.take i ++ (ga E i :: E.drop (i + 1)) := by rw [← ga_drop h, List.take_append_drop]
  conv => lhs; rw [this]
  rw [rcs_app]; rfl
def drL (lv : Int) (E : List En) : Nat → List Int
  | 0 => []
  | n + 1 => drL lv E n ++ t2 (ofs lv E n)
theorem drL_len (lv : Int) (E : List En) : ∀ n, (drL lv E n).length = 2 * n
  | 0 => rfl
  | n + 1 => by unfold drL; rw [List.length_append, drL_len lv E n]; simp [t2]; omega
def arL (lv : Int) (E : List En) : List Int := rcs lv E ++ drL lv E E.length ++ [((E.length : Nat) : Int)] ++ t2 (rcs lv E).length ++ [90]
def arF (lv : Int) (E : List En) : ByteArray := mkS (arL lv E)
theorem arL_len (lv : Int) (E : List En) : (arL lv E).length = (rcs lv E).length + 2 * E.length + 4 := by
  unfold arL t2; simp only [List.length_append, drL_len, List.length_cons, List.length_nil]
theorem rcs_le {lv : Int} : ∀ {E : List En}, ckL E = 0 → (rcs lv E).length ≤ 274 * E.length
  | [], _ => Nat.zero_le _
  | x :: t, h => by
    have h1 := ckL_at h x (List.mem_cons_self ..)
    have h2 : ckL t = 0 := by
      unfold ckL at h; rw [if_neg (by omega), if_neg (by omega)] at h; exact h
    have h3 := rcs_le (lv := lv) h2
    have h4 := (pk_size (u := x.2) lv).2
    unfold rcs; rw [List.length_append, rcd_len, List.length_cons]; omega
/-- the most that it may have -/
def dear : List En → Nat
  | [] => 4
  | x :: t => x.1.size + x.2.size + 12 + dear t
theorem ar_dear (lv : Int) : ∀ E : List En, (rcs lv E).length + 2 * E.length + 4 ≤ dear E
  | [] => by simp [rcs, dear]
  | x :: t => by
    have h4 := (pk_size (u := x.2) lv).2
    have h5 := ar_dear lv t
    unfold rcs dear; rw [List.length_append, rcd_len, List.length_cons]; omega
/-! ### reading back -/
def Seg (raw : ByteArray) (o : Nat) (l : List Int) : Prop := ∀ j, j < l.length → ((bAt raw (o + j) : Nat) : Int) = l.getD j 0
theorem Seg.app {raw : ByteArray} {o : Nat} {a b : List Int} (s : Seg raw o (a ++ b)) : Seg raw o a ∧ Seg raw (o + a.length) b := by
  refine ⟨fun j hj => ?_, fun j hj => ?_⟩
  · have := s j (by rw [List.length_append]; omega)
    rw [this, List.getD_eq_getElem?_getD, List.getElem?_append_left hj, List.getD_eq_getElem?_getD]
  · have := s (a.length + j) (by rw [List.length_append]; omega)
    rw [← Nat.add_assoc] at this
    rw [this, List.getD_eq_getElem?_getD, List.getElem?_append_right (by omega), List.getD_eq_getElem?_getD, Nat.add_sub_cancel_left]
theorem Seg.one {raw : ByteArray} {o : Nat} {x : Nat} (s : Seg raw o [((x : Nat) : Int)]) : bAt raw o = x := by
  have := s 0 (by simp)
  rw [Nat.add_zero] at this
  exact Int.ofNat.inj this
theorem Seg.two {raw : ByteArray} {o n : Nat} (s : Seg raw o (t2 n)) (h : n < 65536) : w2 raw o = n := by
  have h0 := s 0 (by simp [t2])
  have h1 := s 1 (by simp [t2])
  simp only [t2, List.getD_cons_zero, List.getD_cons_succ, Nat.add_zero] at h0 h1
  unfold w2; omega
theorem Seg.ext {raw : ByteArray} {o : Nat} {u : ByteArray} (s : Seg raw o (bz u)) (h : o + u.size ≤ raw.size) : raw.extract o (o + u.size) = u := by
  have hs : (raw.extract o (o + u.size)).size = u.size := by rw [ByteArray.size_extract]; omega
  refine ByteArray.ext (Array.ext_getElem? fun j => ?_)
  by_cases hj : j < u.size
  · have h1 := s j (by rw [bz_len]; exact hj)
    rw [show (bz u).getD j 0 = ((bAt u j : Nat) : Int) from byt_at hj] at h1
    have h2 : bAt raw (o + j) = bAt u j := by omega
    unfold bAt at h2
    rw [ByteArray.data_extract, Array.getElem?_extract_of_lt (by have : raw.data.size = raw.size := rfl; omega)]
    have a1 : o + j < raw.data.size := by have : raw.data.size = raw.size := rfl; omega
    have a2 : j < u.data.size := hj
    rw [Array.getElem?_eq_getElem a1, Array.getElem?_eq_getElem a2] at h2
    simp only [Option.getD_some] at h2
    rw [Array.getElem?_eq_getElem a2, UInt8.toNat_inj.1 h2]
  · have a1 : (raw.extract o (o + u.size)).data.size = u.size := hs
    have a2 : u.data.size = u.size := rfl
    rw [Array.getElem?_eq_none (by omega), Array.getElem?_eq_none (by omega)]
def Byl (l : List Int) : Prop := ∀ x ∈ l, 0 ≤ x ∧ x < 256
theorem Byl.app {a b : List Int} (h1 : Byl a) (h2 : Byl b) : Byl (a ++ b) := fun x hx => by
  rcases List.mem_append.1 hx with h | h
  · exact h1 x h
  · exact h2 x h
theorem byl_bz (u : ByteArray) : Byl (bz u) := fun x hx => by
  unfold bz byt at hx
  obtain ⟨j, _, rfl⟩ := List.mem_map.1 hx
  have := bAt_lt u j
  omega
theorem byl_t2 (n : Nat) : Byl (t2 n) := fun x hx => by
  unfold t2 at hx
  simp only [List.mem_cons, List.not_mem_nil, or_false] at hx
  omega
theorem byl_one {n : Nat} (h : n < 256) : Byl [((n : Nat) : Int)] := fun x hx => by
  simp only [List.mem_cons, List.not_mem_nil, or_false] at hx
  omega
theorem byl_rcd {lv : Int} {x : En} (h : x.1.size ≤ 8) : Byl (rcd lv x) :=
  (((((byl_one (by omega)).app (byl_bz _)).app (byl_t2 _)).app (byl_t2 _)).app (byl_t2 _)).app (byl_bz _)
theorem byl_rcs {lv : Int} : ∀ {E : List En}, (∀ x ∈ E, x.1.size ≤ 8) → Byl (rcs lv E)
  | [], _ => fun x hx => by cases hx
  | y :: t, h => (byl_rcd (h y (List.mem_cons_self ..))).app (byl_rcs fun x hx => h x (List.mem_cons_of_mem _ hx))
theorem byl_drL (lv : Int) (E : List En) : ∀ n, Byl (drL lv E n)
  | 0 => fun x hx => by cases hx
  | n + 1 => (byl_drL lv E n).app (byl_t2 _)
theorem byl_arL {lv : Int} {E : List En} (h : ∀ x ∈ E, x.1.size ≤ 8) (hn : E.length ≤ 4) : Byl (arL lv E) :=
  ((((byl_rcs h).app (byl_drL _ _ _)).app (byl_one (by omega))).app (byl_t2 _)).app (byl_one (n := 90) (by omega))
theorem bAt_mkS {l : List Int} {j : Nat} (h : Byl l) (hj : j < l.length) : ((bAt (mkS l) j : Nat) : Int) = l.getD j 0 := by
  have h1 := h l[j] (List.getElem_mem hj)
  unfold bAt mkS
  simp only [List.getElem?_toArray, List.getElem?_map, List.getElem?_eq_getElem hj, Option.map_some, Option.getD_some, List.getD_eq_getElem?_getD]
  rw [UInt8.toNat_ofNat']
  omega
theorem drL_seg {lv : Int} {E : List En} {raw : ByteArray} {o : Nat} : ∀ {n : Nat}, Seg raw o (drL lv E n) → ∀ i, i < n → Seg raw (o + 2 * i) (t2 (ofs lv E i))
  | 0, _, i, hi => absurd hi (Nat.not_lt_zero _)
  | n + 1, s, i, hi => by
    unfold drL at s
    obtain ⟨s1, s2⟩ := s.app
    by_cases e : i = n
    · subst e; rw [drL_len] at s2; exact s2
    · exact drL_seg s1 i (by omega)
structure RTr (raw : ByteArray) (lv : Int) (E : List En) : Prop where
  sz : raw.size ≤ 1108
  tl : tlF raw = (E.length, (rcs lv E).length, 0, 0)
  sp : ∀ i, i < E.length → spE raw (rcs lv E).length ((rcs lv E).length + 2 * i) = (0, 0)
  off : ∀ i, i < E.length → (spR raw ((rcs lv E).length + 2 * i)).off = ofs lv E i
  head : ∀ i, i < E.length → (spR raw ((rcs lv E).length + 2 * i)).head = ofs lv E i + 1 + (ga E i).1.size
  to : ∀ i, i < E.length → (spR raw ((rcs lv E).length + 2 * i)).to = ofs lv E i + 1 + (ga E i).1.size + 6 + (pkF (ga E i).2 lv).size
  size : ∀ i, i < E.length → (spR raw ((rcs lv E).length + 2 * i)).size = (ga E i).2.size
  sum : ∀ i, i < E.length → (spR raw ((rcs lv E).length + 2 * i)).sum = smF (ga E i).2
  nm : ∀ i, i < E.length → raw.extract (ofs lv E i + 1) (ofs lv E i + 1 + (ga E i).1.size) = (ga E i).1
  tx : ∀ i, i < E.length → raw.extract (ofs lv E i + 1 + (ga E i).1.size + 6) (ofs lv E i + 1 + (ga E i).1.size + 6 + (pkF (ga E i).2 lv).size) = pkF (ga E i).2 lv
theorem rt_all {lv : Int} {E : List En} (h : ckF E lv = 0) : RTr (arF lv E) lv E := by
  obtain ⟨h4, _, _, hc⟩ := ckF_ok h
  have hR := rcs_le (lv := lv) hc
  obtain ⟨R, eR⟩ : ∃ R, R = (rcs lv E).length := ⟨_, rfl⟩
  have hL := arL_len lv E
  have hsz : (arF lv E).size = R + 2 * E.length + 4 := by rw [eR, ← hL]; exact Go.Eng.mkS_size _
  have hby : Byl (arL lv E) := byl_arL (fun x hx => (ckL_at hc x hx).2.1) h4
  obtain ⟨raw, eraw⟩ : ∃ raw, raw = arF lv E := ⟨_, rfl⟩
  have sg : Seg raw 0 (arL lv E) := fun j hj => by
    rw [Nat.zero_add, eraw]; exact bAt_mkS hby hj
  rw [← eraw] at hsz ⊢
  clear eraw
  unfold arL at sg
  obtain ⟨s1, s90⟩ := sg.app
  obtain ⟨s2, sD⟩ := s1.app
  obtain ⟨s3, sC⟩ := s2.app
  obtain ⟨sR, sDir⟩ := s3.app
  simp only [List.length_append, drL_len, List.length_cons, List.length_nil, ← eR, t2, Nat.zero_add] at s90 sD sC sDir
  have e90 : bAt raw (raw.size - 1) = 90 := by
    have := Seg.one (x := 90) s90
    rw [show raw.size - 1 = R + 2 * E.length + 1 + 2 by omega]; exact this
  have eC : bAt raw (raw.size - 4) = E.length := by
    have := Seg.one sC
    rw [show raw.size - 4 = R + 2 * E.length by omega]; exact this
  have eD : w2 raw (raw.size - 3) = R := by
    have := Seg.two (n := R) sD (by omega)
    rw [show raw.size - 3 = R + 2 * E.length + 1 by omega]; exact this
  have htl : tlF raw = (E.length, R, 0, 0) := by
    unfold tlF
    rw [if_neg (by omega), e90, if_neg (by omega), eC, if_neg (by omega), eD, if_neg (by omega)]
  have key : ∀ i, i < E.length → w2 raw (R + 2 * i) = ofs lv E i ∧ ofs lv E i + 1 + (ga E i).1.size + 6 + (pkF (ga E i).2 lv).size ≤ R ∧ bAt raw (ofs lv E i) = (ga E i).1.size ∧ Seg raw (ofs lv E i + 1) (bz (ga E i).1) ∧ w2 raw (ofs lv E i + 1 + (ga E i).1.size) = (ga E i).2.size ∧ w2 raw (ofs lv E i + 1 + (ga E i).1.size + 2) = (pkF (ga E i).2 lv).size ∧ w2 raw (ofs lv E i + 1 + (ga E i).1.size + 4) = smF (ga E i).2 ∧ Seg raw (ofs lv E i + 1 + (ga E i).1.size + 6) (bz (pkF (ga E i).2 lv)) := by
    intro i hi
    have hm := ckL_at hc _ (ga_mem hi)
    have hp := (pk_size (u := (ga E i).2) lv).2
    have hle : ofs lv E i + (ga E i).1.size + 7 + (pkF (ga E i).2 lv).size ≤ R := by
      rw [eR]
      conv => rhs; rw [rcs_split hi]
      rw [List.length_append, List.length_append, rcd_len]; unfold ofs; omega
    have hoff := (drL_seg sDir i hi).two (by omega)
    have sr := sR
    rw [rcs_split hi] at sr
    have sr2 := (sr.app.2).app.1
    rw [Nat.zero_add] at sr2
    change Seg raw (ofs lv E i) (rcd lv (ga E i)) at sr2
    unfold rcd at sr2
    obtain ⟨q1, qP⟩ := sr2.app
    obtain ⟨q2, qS⟩ := q1.app
    obtain ⟨q3, qL⟩ := q2.app
    obtain ⟨q4, qZ⟩ := q3.app
    obtain ⟨q5, qN⟩ := q4.app
    simp only [List.length_append, bz_len, List.length_cons, List.length_nil, Nat.zero_add, show ∀ n, (t2 n).length = 2 from fun _ => rfl] at qP qS qL qZ qN
    refine ⟨hoff, by omega, q5.one, qN, ?_, ?_, ?_, ?_⟩
    · have := qZ.two (by omega); rw [← Nat.add_assoc] at this; exact this
    · have := qL.two (by omega); rw [show ofs lv E i + (1 + (ga E i).1.size + 2) = ofs lv E i + 1 + (ga E i).1.size + 2 by omega] at this; exact this
    · have := qS.two (smL_lt _); rw [show ofs lv E i + (1 + (ga E i).1.size + 2 + 2) = ofs lv E i + 1 + (ga E i).1.size + 4 by omega] at this; exact this
    · rw [show ofs lv E i + (1 + (ga E i).1.size + 2 + 2 + 2) = ofs lv E i + 1 + (ga E i).1.size + 6 by omega] at qP; exact qP
  rw [← eR] at hR
  have hoff : ∀ i, i < E.length → (spR raw (R + 2 * i)).off = ofs lv E i := fun i hi => (key i hi).1
  have hhead : ∀ i, i < E.length → (spR raw (R + 2 * i)).head = ofs lv E i + 1 + (ga E i).1.size := fun i hi => by
    obtain ⟨k1, _, k3, _⟩ := key i hi
    unfold spR; simp only []; rw [k1, k3]
  have hto : ∀ i, i < E.length → (spR raw (R + 2 * i)).to = ofs lv E i + 1 + (ga E i).1.size + 6 + (pkF (ga E i).2 lv).size := fun i hi => by
    obtain ⟨k1, _, k3, _, _, k6, _⟩ := key i hi
    unfold spR; simp only []; rw [k1, k3, k6]
  have hsize : ∀ i, i < E.length → (spR raw (R + 2 * i)).size = (ga E i).2.size := fun i hi => by
    obtain ⟨k1, _, k3, _, k5, _⟩ := key i hi
    unfold spR; simp only []; rw [k1, k3, k5]
  have hsum : ∀ i, i < E.length → (spR raw (R + 2 * i)).sum = smF (ga E i).2 := fun i hi => by
    obtain ⟨k1, _, k3, _, _, _, k7, _⟩ := key i hi
    unfold spR; simp only []; rw [k1, k3, k7]
  refine ⟨by omega, by rw [← eR]; exact htl, ?_, ?_, ?_, ?_, ?_, ?_, ?_, ?_⟩
  all_goals (try rw [← eR])
  · intro i hi
    obtain ⟨k1, k2, k3, k4, k5, k6, k7, k8⟩ := key i hi
    have hm := ckL_at hc _ (ga_mem hi)
    have hp := (pk_size (u := (ga E i).2) lv).2
    unfold spE
    rw [hoff i hi, hhead i hi, hto i hi, hsize i hi, k3, k6, if_neg (by omega), if_neg (by omega), if_neg (by omega), if_neg (by omega), if_neg (by omega), if_neg (by omega)]
  · exact hoff
  · exact hhead
  · exact hto
  · exact hsize
  · exact hsum
  · intro i hi
    obtain ⟨k1, k2, k3, k4, _⟩ := key i hi
    exact k4.ext (by omega)
  · intro i hi
    obtain ⟨k1, k2, k3, k4, k5, k6, k7, k8⟩ := key i hi
    exact k8.ext (by omega)
end Go.Arc
