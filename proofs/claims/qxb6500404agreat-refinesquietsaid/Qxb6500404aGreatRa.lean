import Derived.Test.Qxb6500404aGreatNf
set_option linter.unusedVariables false
set_option linter.unusedSimpArgs false
namespace Go.Blk
open Go.Bits Go.Huf
open Go.Eng (bAt mkS)
open Go.Proofs.Qxb6500404aGreat.HufW (lensE fndI lensE_lw fndI_ok)
/-! ### the decoder's breath does not matter -/
theorem Ad.ok {s s' : TS} (h : Ad s s') (hs : OK s) (hp : s'.p ≤ s'.n) : OK s' := ⟨by rw [h.N, h.n]; exact hs.1, hp, by rw [h.n]; exact hs.2.2⟩
theorem skip_ok {s : TS} (h : OK s) (k : Int) : OK (skipS s k) := h.skip k
theorem sy_OK {s : TS} {lf : Nat → Nat} {N : Nat} (h : OK s) : OK (syF s lf N).s := by
  unfold syF; split
  · exact h
  · exact h.skip _
theorem tkC_OK {s : TS} {lb : Nat → Nat} {v : Nat} {out : List Int} (h : OK s) : OK (tkC s lb v out).s := by
  unfold tkC
  have h1 := sy_OK (lf := lb) (N := 8) h
  have h2 := h1.skip (dM (syF s lb 8).v)
  repeat' split
  all_goals first | exact h1 | exact h2
theorem tk_OK {s : TS} {la lb : Nat → Nat} {out : List Int} (h : OK s) : OK (tkF s la lb out).s := by
  unfold tkF
  have h1 := sy_OK (lf := la) (N := 265) h
  repeat' split
  · exact h1
  · exact h1
  · exact h1
  · exact tkC_OK h1
theorem stoL_OK : ∀ (m : Nat) {s : TS} (out : List Int) (pl : Nat), OK s → OK (stoL m s out pl).s
  | 0, s, out, pl, h => h
  | m + 1, s, out, pl, h => by
    rw [stoL]
    split
    · exact h
    · split
      · exact h.skip _
      · exact stoL_OK m _ _ (h.skip _)
theorem stoF_OK {s : TS} (out : List Int) (h : OK s) : OK (stoF s out).s := by
  unfold stoF
  split
  · exact h.sync
  · exact stoL_OK _ _ _ (h.sync.skip _)
theorem lnF_OK : ∀ (f : Nat) {s : TS} (l : List Nat), OK s → OK (lnF f s l).s
  | 0, s, l, h => h
  | f + 1, s, l, h => by
    rw [lnF]
    have h1 := h.skip 4
    have h2 := h1.skip (mr (takeV s 4))
    repeat' split
    all_goals first | exact h | exact h1 | exact h2 | exact lnF_OK f _ h1 | exact lnF_OK f _ h2
theorem cdF_OK (la lb : Nat → Nat) : ∀ (f : Nat) {s : TS} (out : List Int), OK s → OK (cdF la lb f s out).s
  | 0, s, out, h => h
  | f + 1, s, out, h => by
    rw [cdF]
    split
    · exact tk_OK h
    · exact cdF_OK la lb f _ (tk_OK h)
theorem coF_OK {s : TS} (l : List Nat) (head : Nat) (out : List Int) (h : OK s) : OK (coF s l head out).s := by
  unfold coF; split
  · exact h
  · exact cdF_OK _ _ _ _ h
theorem dyF_OK {s : TS} (out : List Int) (h : OK s) : OK (dyF s out).s := by
  unfold dyF; split
  · exact lnF_OK _ _ h
  · exact coF_OK _ _ _ (lnF_OK _ _ h)
theorem blF_OK (kd pl : Nat) {s : TS} (out : List Int) (h : OK s) : OK (blF kd pl s out).s := by
  unfold blF
  repeat' split
  · exact stoF_OK _ h
  · exact coF_OK _ _ _ h
  · exact dyF_OK _ h
  · exact h
theorem cdF_fuel (la lb : Nat → Nat) : ∀ (f g : Nat) {s : TS} (out : List Int), OK s → s.n - s.p < f → s.n - s.p < g → cdF la lb f s out = cdF la lb g s out
  | 0, _, _, _, _, h, _ => by omega
  | f + 1, 0, _, _, _, _, h => by omega
  | f + 1, g + 1, s, out, h, h1, h2 => by
    rw [cdF, cdF]
    by_cases hd : (tkF s la lb out).dn = true
    · rw [if_pos hd, if_pos hd]
    · rw [if_neg hd, if_neg hd]
      have hl := tk_lt (s := s) (la := la) (lb := lb) (out := out) (by simpa using hd)
      have ha := (tk_ad s la lb out).n
      have ho := tk_OK (la := la) (lb := lb) (out := out) h
      have hp := ho.2.1
      have hq := h.2.1
      exact cdF_fuel la lb f g _ ho (by omega) (by omega)
theorem rnF_fuel : ∀ (f g : Nat) {s : TS} (out : List Int), OK s → s.n - s.p < f → s.n - s.p < g → rnF f s out = rnF g s out
  | 0, _, _, _, _, h, _ => by omega
  | f + 1, 0, _, _, _, _, h => by omega
  | f + 1, g + 1, s, out, h, h1, h2 => by
    rw [rnF, rnF]
    by_cases e1 : skipE s 1 ≠ 0
    · rw [if_pos e1, if_pos e1]
    · rw [if_neg e1, if_neg e1]
      by_cases e2 : skipE (skipS s 1) 2 ≠ 0
      · rw [if_pos e2, if_pos e2]
      · rw [if_neg e2, if_neg e2]
        have o1 := h.skip 1
        have o2 := o1.skip 2
        have ad := blF_ad (takeV (skipS s 1) 2) (skipS s 1).p o2 out
        have ob := blF_OK (takeV (skipS s 1) 2) (skipS s 1).p out o2
        generalize hb : blF (takeV (skipS s 1) 2) (skipS s 1).p (skipS (skipS s 1) 2) out = b at *
        by_cases e3 : b.e ≠ 0
        · rw [if_pos e3, if_pos e3]
        · rw [if_neg e3, if_neg e3]
          by_cases e4 : takeV s 1 = 0
          · rw [if_pos e4, if_pos e4]
            have p1 := skip_p (s := s) (k := 1) (by rw [show ((1 : Nat) : Int) = 1 from rfl]; omega)
            rw [show ((1 : Nat) : Int) = 1 from rfl] at p1
            have a1 := (skip_ad s 1).n
            have a2 := skip_ad (skipS s 1) 2
            have a3 := a2.n
            have a4 := a2.p
            have a5 := ad.n
            have a6 := ad.p
            have hp := h.2.1
            have hp2 := ob.2.1
            exact rnF_fuel f g _ ob (by omega) (by omega)
          · rw [if_neg e4, if_neg e4]
theorem lnF_fuel : ∀ (f g : Nat) (s : TS) (l : List Nat), 273 ≤ l.length + f → 273 ≤ l.length + g → lnF f s l = lnF g s l
  | 0, 0, _, _, _, _ => rfl
  | 0, g + 1, s, l, h, _ => by rw [lnF_end (by omega), lnF_end (by omega)]
  | f + 1, 0, s, l, _, h => by rw [lnF_end (by omega), lnF_end (by omega)]
  | f + 1, g + 1, s, l, h1, h2 => by
    rw [lnF, lnF]
    rw [lnF_fuel f g (skipS s 4) (l ++ [takeV s 4]) (by simp; omega) (by simp; omega)]
    rw [lnF_fuel f g _ (l ++ List.replicate (3 + takeV (skipS s 4) (mr (takeV s 4))) _) (by simp; omega) (by simp; omega)]
/-! ### what is still to come -/
/-- behind a block -/
def ctD (fin : Nat) (b : DO) : DO := if b.e ≠ 0 then b else if fin = 0 then rnF 4097 b.s b.out else fiF b.s b.out
def fiT (s : TS) (out : List Int) : DO := if s.p < s.n then ⟨out, 11, s.p, s⟩ else ⟨out, 0, 0, s⟩
def knD (fin : Nat) (s : TS) (out : List Int) : DO := if skipE s 2 ≠ 0 then ⟨out, skipE s 2, s.p, s⟩ else ctD fin (blF (takeV s 2) s.p (skipS s 2) out)
def szD (fin : Nat) (s : TS) (out : List Int) : DO := ctD fin (if skipE s 16 ≠ 0 then ⟨out, skipE s 16, s.p, s⟩ else stoL (takeV s 16) (skipS s 16) out s.p)
def byD (fin due : Nat) (s : TS) (out : List Int) : DO := ctD fin (stoL due s out 0)
def lsD (fin head : Nat) (l : List Nat) (s : TS) (out : List Int) : DO := ctD fin (if (lnF 273 s l).e ≠ 0 then ⟨out, (lnF 273 s l).e, (lnF 273 s l).pl, (lnF 273 s l).s⟩ else coF (lnF 273 s l).s (lnF 273 s l).l head out)
def syD (fin : Nat) (la lb : Nat → Nat) (s : TS) (out : List Int) : DO := ctD fin (cdF la lb 4097 s out)
def tkD (fin : Nat) (la lb : Nat → Nat) (pl : Nat) (k : KO) : DO := ctD fin (if k.dn = true then ⟨k.out, k.e, pl, k.s⟩ else cdF la lb 4097 k.s k.out)
def dsD (fin : Nat) (la lb : Nat → Nat) (pl run : Nat) (s : TS) (out : List Int) : DO := tkD fin la lb pl (tkC s lb (run + 254) out)
def tkM (s : TS) (run base more : Nat) (out : List Int) : KO :=
  if skipE s more ≠ 0 then ⟨out, true, skipE s more, s⟩
  else if out.length < base + takeV s more then ⟨out, true, 9, skipS s more⟩
  else if 256 < out.length + run then ⟨out, true, 10, skipS s more⟩
  else ⟨cpy out (base + takeV s more) run, false, 0, skipS s more⟩
def moD (fin : Nat) (la lb : Nat → Nat) (pl run base more : Nat) (s : TS) (out : List Int) : DO := tkD fin la lb pl (tkM s run base more out)
theorem rn_go {s : TS} {out : List Int} (h : OK s) (e : skipE s 1 = 0) : rnF 4097 s out = knD (takeV s 1) (skipS s 1) out := by
  have o1 := h.skip 1
  have o2 := o1.skip 2
  rw [rnF, if_neg (by omega)]
  unfold knD
  by_cases e2 : skipE (skipS s 1) 2 ≠ 0
  · rw [if_pos e2, if_pos e2]
  · rw [if_neg e2, if_neg e2]
    have ad := blF_ad (takeV (skipS s 1) 2) (skipS s 1).p o2 out
    have ob := blF_OK (takeV (skipS s 1) 2) (skipS s 1).p out o2
    generalize hb : blF (takeV (skipS s 1) 2) (skipS s 1).p (skipS (skipS s 1) 2) out = b at *
    unfold ctD
    by_cases e3 : b.e ≠ 0
    · rw [if_pos e3, if_pos e3]
    · rw [if_neg e3, if_neg e3]
      by_cases e4 : takeV s 1 = 0
      · rw [if_pos e4, if_pos e4]
        have p1 := skip_p (s := s) (k := 1) (by rw [show ((1 : Nat) : Int) = 1 from rfl]; omega)
        rw [show ((1 : Nat) : Int) = 1 from rfl] at p1
        have a1 := (skip_ad s 1).n
        have a2 := skip_ad (skipS s 1) 2
        have a3 := a2.n
        have a4 := a2.p
        have a5 := ad.n
        have a6 := ad.p
        have hp := h.2.1
        have hp2 := ob.2.1
        have hp3 := h.2.2
        exact rnF_fuel _ _ _ ob (by omega) (by omega)
      · rw [if_neg e4, if_neg e4]
theorem rn_no {s : TS} {out : List Int} (e : skipE s 1 ≠ 0) : rnF 4097 s out = ⟨out, skipE s 1, s.p, s⟩ := by rw [rnF, if_pos e]
theorem kn_no {fin : Nat} {s : TS} {out : List Int} (e : skipE s 2 ≠ 0) : knD fin s out = ⟨out, skipE s 2, s.p, s⟩ := by unfold knD; rw [if_pos e]
theorem ct_no {fin : Nat} {b : DO} (e : b.e ≠ 0) : ctD fin b = b := by unfold ctD; rw [if_pos e]
theorem kn_0 {fin : Nat} {s : TS} {out : List Int} (e : skipE s 2 = 0) (k : takeV s 2 = 0) : knD fin s out = szD fin (syncS (skipS s 2)) out := by
  unfold knD szD; rw [if_neg (by omega), k]; rfl
theorem kn_1 {fin : Nat} {s : TS} {out : List Int} (e : skipE s 2 = 0) (k : takeV s 2 = 1) : knD fin s out = ctD fin (coF (skipS s 2) fixL (skipS s 2).p out) := by
  unfold knD; rw [if_neg (by omega), k]; unfold blF; rw [if_neg (by omega), if_pos rfl]
theorem kn_2 {fin : Nat} {s : TS} {out : List Int} (e : skipE s 2 = 0) (k : takeV s 2 = 2) : knD fin s out = lsD fin (skipS s 2).p [] (skipS s 2) out := by
  unfold knD lsD; rw [if_neg (by omega), k]; unfold blF dyF; rw [if_neg (by omega), if_neg (by omega), if_pos rfl]
theorem kn_3 {fin : Nat} {s : TS} {out : List Int} (e : skipE s 2 = 0) (k0 : takeV s 2 ≠ 0) (k1 : takeV s 2 ≠ 1) (k2 : takeV s 2 ≠ 2) : knD fin s out = ⟨out, 5, s.p, skipS s 2⟩ := by
  unfold knD; rw [if_neg (by omega)]; unfold blF; rw [if_neg k0, if_neg k1, if_neg k2, ct_no (by simp)]
theorem co_go {fin : Nat} {s : TS} {l : List Nat} {head : Nat} {out : List Int} (e : coE l = 0) : ctD fin (coF s l head out) = syD fin (cf (lA l)) (cf (lB l)) s out := by
  unfold coF syD; rw [if_neg (by omega)]
theorem co_no {fin : Nat} {s : TS} {l : List Nat} {head : Nat} {out : List Int} (e : coE l ≠ 0) : ctD fin (coF s l head out) = ⟨out, coE l, head, s⟩ := by
  unfold coF; rw [if_pos e, ct_no e]
theorem sz_no {fin : Nat} {s : TS} {out : List Int} (e : skipE s 16 ≠ 0) : szD fin s out = ⟨out, skipE s 16, s.p, s⟩ := by unfold szD; rw [if_pos e, ct_no e]
/-- the block has ended -/
def enD (fin : Nat) (s : TS) (out : List Int) : DO := if fin = 0 then rnF 4097 s out else fiF s out
theorem sz_0 {fin : Nat} {s : TS} {out : List Int} (e : skipE s 16 = 0) (v : takeV s 16 = 0) : szD fin s out = enD fin (skipS s 16) out := by
  unfold szD; rw [if_neg (by omega), v, stoL]; unfold ctD enD; rw [if_neg (by simp)]
theorem sto_pl : ∀ (m : Nat) (s : TS) (out : List Int) (a b : Nat), 0 < m → stoL m s out a = stoL m s out b
  | 0, _, _, _, _, h => by omega
  | m + 1, s, out, a, b, _ => by rw [stoL, stoL]
theorem sz_1 {fin : Nat} {s : TS} {out : List Int} (e : skipE s 16 = 0) (v : takeV s 16 ≠ 0) : szD fin s out = byD fin (takeV s 16) (skipS s 16) out := by
  unfold szD byD; rw [if_neg (by omega), sto_pl _ _ _ s.p 0 (by omega)]
theorem by_no {fin due : Nat} {s : TS} {out : List Int} (hd : 0 < due) (e : skipE s 8 ≠ 0) : byD fin due s out = ⟨out, skipE s 8, s.p, s⟩ := by
  obtain ⟨m, rfl⟩ : ∃ m, due = m + 1 := ⟨due - 1, by omega⟩
  unfold byD; rw [stoL, if_pos e, ct_no e]
theorem by_out {fin due : Nat} {s : TS} {out : List Int} (hd : 0 < due) (e : skipE s 8 = 0) (ho : 256 ≤ out.length) : byD fin due s out = ⟨out, 10, s.p, skipS s 8⟩ := by
  obtain ⟨m, rfl⟩ : ∃ m, due = m + 1 := ⟨due - 1, by omega⟩
  unfold byD; rw [stoL, if_neg (by omega), if_pos ho, ct_no (by simp)]
theorem by_go {fin due : Nat} {s : TS} {out : List Int} (hd : 1 < due) (e : skipE s 8 = 0) (ho : ¬ 256 ≤ out.length) : byD fin due s out = byD fin (due - 1) (skipS s 8) (out ++ [(takeV s 8 : Int)]) := by
  obtain ⟨m, rfl⟩ : ∃ m, due = m + 1 := ⟨due - 1, by omega⟩
  unfold byD; rw [stoL, if_neg (by omega), if_neg ho, sto_pl _ _ _ s.p 0 (by omega)]; rfl
theorem by_end {fin : Nat} {s : TS} {out : List Int} (e : skipE s 8 = 0) (ho : ¬ 256 ≤ out.length) : byD fin 1 s out = enD fin (skipS s 8) (out ++ [(takeV s 8 : Int)]) := by
  unfold byD; rw [stoL, if_neg (by omega), if_neg ho, stoL]; unfold ctD enD; rw [if_neg (by simp)]
theorem en_0 {fin : Nat} {s : TS} {out : List Int} (h : fin = 0) : enD fin s out = rnF 4097 s out := by unfold enD; rw [if_pos h]
theorem en_1 {fin : Nat} {s : TS} {out : List Int} (h : fin ≠ 0) : enD fin s out = fiT (syncS s) out := by unfold enD; rw [if_neg h]; rfl
end Go.Blk
