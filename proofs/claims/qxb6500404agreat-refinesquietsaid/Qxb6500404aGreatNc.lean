import Derived.Test.Qxb6500404aGreatNb
import Derived.Test.Qxb6500404aGreatXk
import Derived.Test.Qxb6500404aGreatLq
set_option linter.unusedVariables false
set_option linter.unusedSimpArgs false
namespace Go.Blk
open Go.Bits Go.Huf
open Go.Lz (Tok toks tokF advF parseF nF bestF byt tok_lit tok_dup nF_pos best_range adv_pos adv_le)
open Go.Eng (bAt)
open Go.Proofs.Qxb6500404aGreat.HufW (lensE fndI fndI_hit lensE_lw)
/-! ### the specification decoder, as plain functions -/
structure DO where
  out : List Int
  e : Nat
  pl : Nat
  s : TS
def stoL : Nat → TS → List Int → Nat → DO
  | 0, s, out, pl => ⟨out, 0, pl, s⟩
  | m + 1, s, out, pl => if skipE s 8 ≠ 0 then ⟨out, skipE s 8, s.p, s⟩ else if 256 ≤ out.length then ⟨out, 10, s.p, skipS s 8⟩ else stoL m (skipS s 8) (out ++ [(takeV s 8 : Int)]) s.p
def stoF (s : TS) (out : List Int) : DO := if skipE (syncS s) 16 ≠ 0 then ⟨out, skipE (syncS s) 16, (syncS s).p, syncS s⟩ else stoL (takeV (syncS s) 16) (skipS (syncS s) 16) out (syncS s).p
structure LO where
  l : List Nat
  e : Nat
  pl : Nat
  s : TS
def mr (it : Nat) : Nat := if it = 12 then 2 else 7
def lnF : Nat → TS → List Nat → LO
  | 0, s, l => ⟨l, 0, 0, s⟩
  | f + 1, s, l =>
    if 273 ≤ l.length then ⟨l, 0, 0, s⟩
    else if skipE s 4 ≠ 0 then ⟨[], skipE s 4, s.p, s⟩
    else if takeV s 4 ≤ 10 then lnF f (skipS s 4) (l ++ [takeV s 4])
    else if 12 < takeV s 4 then ⟨[], 8, s.p, skipS s 4⟩
    else if skipE (skipS s 4) (mr (takeV s 4)) ≠ 0 then ⟨[], skipE (skipS s 4) (mr (takeV s 4)), s.p, skipS s 4⟩
    else if takeV s 4 = 12 ∧ l.length = 0 then ⟨[], 8, s.p, skipS (skipS s 4) (mr (takeV s 4))⟩
    else if 273 < l.length + 3 + takeV (skipS s 4) (mr (takeV s 4)) then ⟨[], 8, s.p, skipS (skipS s 4) (mr (takeV s 4))⟩
    else lnF f (skipS (skipS s 4) (mr (takeV s 4))) (l ++ List.replicate (3 + takeV (skipS s 4) (mr (takeV s 4))) (if takeV s 4 = 12 then l.getD (l.length - 1) 0 else 0))
def dB (c : Nat) : Nat := if c < 4 then c + 1 else if c < 6 then 5 + 2 * (c - 4) else 9 + 4 * (c - 6)
def dM (c : Nat) : Nat := if c < 4 then 0 else if c < 6 then 1 else 2
def dC (d : Nat) : Nat := if d ≤ 4 then d - 1 else if d ≤ 8 then 4 + (d - 5) / 2 else 6 + (d - 9) / 4
theorem dC_is {d : Nat} (h1 : 1 ≤ d) (h2 : d ≤ 16) : dC d < 8 ∧ dB (dC d) ≤ d ∧ d - dB (dC d) < 2 ^ dM (dC d) ∧ dM (dC d) ≤ 2 := by
  rcases (show d = 1 ∨ d = 2 ∨ d = 3 ∨ d = 4 ∨ d = 5 ∨ d = 6 ∨ d = 7 ∨ d = 8 ∨ d = 9 ∨ d = 10 ∨ d = 11 ∨ d = 12 ∨ d = 13 ∨ d = 14 ∨ d = 15 ∨ d = 16 by omega) with e | e | e | e | e | e | e | e | e | e | e | e | e | e | e | e <;> subst e <;> decide
structure SO where
  v : Nat
  e : Nat
  s : TS
def syQ (s : TS) (lf : Nat → Nat) (N : Nat) : Nat × Nat × Nat := fndI lf N (peekV s 10 : Int) (gotF s 10 : Int)
def syF (s : TS) (lf : Nat → Nat) (N : Nat) : SO := if (syQ s lf N).2.2 ≠ 0 then ⟨0, (syQ s lf N).2.2, s⟩ else ⟨(syQ s lf N).1, 0, skipS s ((syQ s lf N).2.1 : Int)⟩
def cpy (out : List Int) (d : Nat) : Nat → List Int
  | 0 => out
  | n + 1 => cpy out d n ++ [(cpy out d n).getD ((cpy out d n).length - d) 0]
structure KO where
  out : List Int
  dn : Bool
  e : Nat
  s : TS
/-- a length has been read (v: its symbol): the distance, the copy -/
def tkC (s : TS) (lb : Nat → Nat) (v : Nat) (out : List Int) : KO :=
  if (syF s lb 8).e ≠ 0 then ⟨out, true, (syF s lb 8).e, (syF s lb 8).s⟩
  else if skipE (syF s lb 8).s (dM (syF s lb 8).v) ≠ 0 then ⟨out, true, skipE (syF s lb 8).s (dM (syF s lb 8).v), (syF s lb 8).s⟩
  else if out.length < dB (syF s lb 8).v + takeV (syF s lb 8).s (dM (syF s lb 8).v) then ⟨out, true, 9, skipS (syF s lb 8).s (dM (syF s lb 8).v)⟩
  else if 256 < out.length + (v - 254) then ⟨out, true, 10, skipS (syF s lb 8).s (dM (syF s lb 8).v)⟩
  else ⟨cpy out (dB (syF s lb 8).v + takeV (syF s lb 8).s (dM (syF s lb 8).v)) (v - 254), false, 0, skipS (syF s lb 8).s (dM (syF s lb 8).v)⟩
def tkF (s : TS) (la lb : Nat → Nat) (out : List Int) : KO :=
  if (syF s la 265).e ≠ 0 ∨ (syF s la 265).v = 256 then ⟨out, true, (syF s la 265).e, (syF s la 265).s⟩
  else if (syF s la 265).v < 256 then (if 256 ≤ out.length then ⟨out, true, 10, (syF s la 265).s⟩ else ⟨out ++ [((syF s la 265).v : Int)], false, 0, (syF s la 265).s⟩)
  else tkC (syF s la 265).s lb (syF s la 265).v out
def cdF (la lb : Nat → Nat) : Nat → TS → List Int → DO
  | 0, s, out => ⟨out, 0, 0, s⟩
  | f + 1, s, out => if (tkF s la lb out).dn = true then ⟨(tkF s la lb out).out, (tkF s la lb out).e, s.p, (tkF s la lb out).s⟩ else cdF la lb f (tkF s la lb out).s (tkF s la lb out).out
def li (l : List Nat) : List Int := l.map fun (x : Nat) => (x : Int)
theorem li_len (l : List Nat) : (li l).length = l.length := by simp [li]
theorem li_at (l : List Nat) (j : Nat) : (li l).getD j 0 = (l.getD j 0 : Int) := by
  simp only [li, List.getD_eq_getElem?_getD, List.getElem?_map]
  cases l[j]? <;> rfl
theorem li_cf (l : List Nat) : cf (li l) = fun i => l.getD i 0 := by funext i; unfold cf; rw [li_at, Int.toNat_natCast]
def lA (l : List Nat) : List Int := li (l.take 265)
def lB (l : List Nat) : List Int := li (l.drop 265)
def coE (l : List Nat) : Nat := if lensE (lA l) ≠ 0 then lensE (lA l) else if lensE (lB l) ≠ 0 then lensE (lB l) else if l.getD 256 0 = 0 then 8 else 0
def coF (s : TS) (l : List Nat) (head : Nat) (out : List Int) : DO := if coE l ≠ 0 then ⟨out, coE l, head, s⟩ else cdF (cf (lA l)) (cf (lB l)) 4097 s out
def fixL : List Nat := List.replicate 247 8 ++ List.replicate 18 9 ++ List.replicate 8 3
def dyF (s : TS) (out : List Int) : DO := if (lnF 273 s []).e ≠ 0 then ⟨out, (lnF 273 s []).e, (lnF 273 s []).pl, (lnF 273 s []).s⟩ else coF (lnF 273 s []).s (lnF 273 s []).l s.p out
def blF (kd : Nat) (pl : Nat) (s : TS) (out : List Int) : DO := if kd = 0 then stoF s out else if kd = 1 then coF s fixL s.p out else if kd = 2 then dyF s out else ⟨out, 5, pl, s⟩
def fiF (s : TS) (out : List Int) : DO := if (syncS s).p < (syncS s).n then ⟨out, 11, (syncS s).p, syncS s⟩ else ⟨out, 0, 0, syncS s⟩
def rnF : Nat → TS → List Int → DO
  | 0, s, out => ⟨out, 0, 0, s⟩
  | f + 1, s, out =>
    if skipE s 1 ≠ 0 then ⟨out, skipE s 1, s.p, s⟩
    else if skipE (skipS s 1) 2 ≠ 0 then ⟨out, skipE (skipS s 1) 2, (skipS s 1).p, skipS s 1⟩
    else if (blF (takeV (skipS s 1) 2) (skipS s 1).p (skipS (skipS s 1) 2) out).e ≠ 0 then blF (takeV (skipS s 1) 2) (skipS s 1).p (skipS (skipS s 1) 2) out
    else if takeV s 1 = 0 then rnF f (blF (takeV (skipS s 1) 2) (skipS s 1).p (skipS (skipS s 1) 2) out).s (blF (takeV (skipS s 1) 2) (skipS s 1).p (skipS (skipS s 1) 2) out).out
    else fiF (blF (takeV (skipS s 1) 2) (skipS s 1).p (skipS (skipS s 1) 2) out).s (blF (takeV (skipS s 1) 2) (skipS s 1).p (skipS (skipS s 1) 2) out).out
def ruF (raw : ByteArray) : DO := if 512 < raw.size then ⟨[], 1, 0, ⟨0, 0, 0⟩⟩ else rnF 4097 (loadS ⟨0, 0, 0⟩ raw) []
/-! ### what is laid is read back -/
/-- a cursor that has gone on -/
structure Go' (s s' : TS) (k : Nat) : Prop where
  N : s'.N = s.N
  n : s'.n = s.n
  p : s'.p = s.p + k
theorem Go'.trans {s s' s'' : TS} {a b : Nat} (h1 : Go' s s' a) (h2 : Go' s' s'' b) : Go' s s'' (a + b) := ⟨by rw [h2.N, h1.N], by rw [h2.n, h1.n], by rw [h2.p, h1.p]; omega⟩
theorem Rd.step {s : TS} {v k : Nat} {l : List (Nat × Nat)} (h : Rd s ((v, k) :: l)) (hv : v < 2 ^ k) (hk : k ≤ 16) : skipE s (k : Int) = 0 ∧ takeV s (k : Int) = v ∧ Go' s (skipS s (k : Int)) k ∧ Rd (skipS s (k : Int)) l := by
  obtain ⟨h1, h2, h3, h4⟩ := h.take hv hk
  exact ⟨h1, h2, ⟨by rw [h3], by rw [h3], by rw [h3]⟩, h4⟩
theorem rn_split (x : Nat) : ∀ (k : Nat) (t : List Nat), k ≤ rn x t → t = List.replicate k x ++ t.drop k
  | 0, t, _ => by simp
  | k + 1, [], h => by simp [rn] at h
  | k + 1, y :: t, h => by
    rw [rn] at h
    split at h
    · rename_i e
      rw [e, List.replicate_succ, List.cons_append, List.drop_succ_cons, ← rn_split x k t (by omega)]
    · omega
theorem skip_0 {s : TS} (h : skipE s ((0 : Nat) : Int) = 0) : skipS s ((0 : Nat) : Int) = s := by
  unfold skipS
  rw [if_pos h]; simp
/-- the list of lengths -/
theorem lnF_items : ∀ (f : Nat) (rest l0 : List Nat) (pv : Option Nat) (s : TS) (tl : List (Nat × Nat)), rest.length ≤ f → l0.length + rest.length = 273 → (∀ x, pv = some x → 0 < l0.length ∧ l0.getD (l0.length - 1) 0 = x) → (∀ x, x ∈ rest → x ≤ 10) →
    Rd s (ips (itG pv rest) ++ tl) → ∃ s', lnF f s l0 = ⟨l0 ++ rest, 0, 0, s'⟩ ∧ Rd s' tl ∧ Go' s s' (ib (itG pv rest)) := by
  intro f
  induction f with
  | zero =>
    intro rest l0 pv s tl hf hl hpv hx hr
    obtain rfl : rest = [] := List.eq_nil_of_length_eq_zero (by omega)
    rw [itG_nil] at hr ⊢
    exact ⟨s, by simp [lnF], hr, ⟨rfl, rfl, rfl⟩⟩
  | succ f ih =>
    intro rest l0 pv s tl hf hl hpv hx hr
    cases rest with
    | nil =>
      rw [itG_nil] at hr ⊢
      exact ⟨s, by rw [lnF, if_pos (by simp at hl; omega), List.append_nil], hr, ⟨rfl, rfl, rfl⟩⟩
    | cons x t =>
      rw [List.length_cons] at hf hl
      have hx0 := hx x (by simp)
      have hrt := rn_le x t
      have hdr : ∀ k, (∀ y, y ∈ t.drop k → y ≤ 10) := fun k y hy => hx y (List.mem_cons_of_mem _ (List.mem_of_mem_drop hy))
      have hsp := fun k hk => rn_split x k t hk
      rw [itG_cons] at hr ⊢
      rw [lnF, if_neg (by omega)]
      split at hr
      · rename_i hc
        rw [if_pos hc]
        generalize hR : min (rn x t + 1) 130 = R at hr ⊢
        have hR3 : 3 ≤ R := by omega
        rw [ips_cons, List.cons_append, List.cons_append] at hr
        obtain ⟨a1, a2, a3, a4⟩ := hr.step (by simp only []; omega) (by omega)
        obtain ⟨b1, b2, b3, b4⟩ := a4.step (by simp only []; omega) (by simp only []; omega)
        simp only [] at a1 a2 a3 b1 b2 b3 b4
        have e4 : ((4 : Nat) : Int) = 4 := rfl
        have e7 : ((7 : Nat) : Int) = 7 := rfl
        rw [e4] at a1 a2 a3 b1 b2 b3 b4
        have hm : mr (takeV s 4) = 7 := by rw [a2]; rfl
        rw [if_neg (by omega), if_neg (by omega), if_neg (by omega), hm, if_neg (by rw [b1]; simp), if_neg (by omega), b2, if_neg (by omega), if_neg (by omega)]
        obtain ⟨s', i1, i2, i3⟩ := ih (t.drop (R - 1)) (l0 ++ List.replicate (3 + (R - 3)) 0) (some 0) _ tl (by rw [List.length_drop]; omega) (by rw [List.length_append, List.length_replicate, List.length_drop]; omega) (fun y e => by
          cases e
          rw [List.length_append, List.length_replicate]
          refine ⟨by omega, ?_⟩
          rw [List.getD_eq_getElem?_getD, List.getElem?_append_right (by omega), List.getElem?_replicate, if_pos (by omega)]; try rfl) (hdr _) b4
        refine ⟨s', ?_, i2, by have h9 := (a3.trans b3).trans i3; rw [ib]; exact ⟨h9.N, h9.n, h9.p.trans (by first | rfl | (simp only []; omega))⟩⟩
        rw [i1, List.append_assoc]
        congr 2
        have h9 := hsp (R - 1) (by omega)
        rw [show 3 + (R - 3) = (R - 1) + 1 by omega, List.replicate_succ, List.cons_append, hc.1] at *
        rw [← h9]
      · rename_i hc
        rw [if_neg hc]
        split at hr
        · rename_i hc2
          rw [if_pos hc2]
          generalize hR : min (rn x t + 1) 6 = R at hr ⊢
          have hR3 : 3 ≤ R := by omega
          rw [ips_cons, List.cons_append, List.cons_append] at hr
          obtain ⟨a1, a2, a3, a4⟩ := hr.step (by simp only []; omega) (by omega)
          obtain ⟨b1, b2, b3, b4⟩ := a4.step (by simp only []; omega) (by simp only []; omega)
          simp only [] at a1 a2 a3 b1 b2 b3 b4
          have e4 : ((4 : Nat) : Int) = 4 := rfl
          rw [e4] at a1 a2 a3 b1 b2 b3 b4
          have hm : mr (takeV s 4) = 2 := by rw [a2]; rfl
          obtain ⟨q1, q2⟩ := hpv x hc2.1
          rw [if_neg (by omega), if_neg (by omega), if_neg (by omega), hm, if_neg (by rw [b1]; simp), if_neg (by omega), b2, if_neg (by omega), if_pos a2, q2]
          obtain ⟨s', i1, i2, i3⟩ := ih (t.drop (R - 1)) (l0 ++ List.replicate (3 + (R - 3)) x) (some x) _ tl (by rw [List.length_drop]; omega) (by rw [List.length_append, List.length_replicate, List.length_drop]; omega) (fun y e => by
            cases e
            rw [List.length_append, List.length_replicate]
            refine ⟨by omega, ?_⟩
            rw [List.getD_eq_getElem?_getD, List.getElem?_append_right (by omega), List.getElem?_replicate, if_pos (by omega)]; try rfl) (hdr _) b4
          refine ⟨s', ?_, i2, by have h9 := (a3.trans b3).trans i3; rw [ib]; exact ⟨h9.N, h9.n, h9.p.trans (by first | rfl | (simp only []; omega))⟩⟩
          rw [i1, List.append_assoc]
          congr 2
          have h9 := hsp (R - 1) (by omega)
          rw [show 3 + (R - 3) = (R - 1) + 1 by omega, List.replicate_succ, List.cons_append, ← h9]
        · rename_i hc2
          rw [if_neg hc2]
          rw [ips_cons, List.cons_append, List.cons_append] at hr
          obtain ⟨a1, a2, a3, a4⟩ := hr.step (by simp only []; omega) (by omega)
          obtain ⟨b1, b2, b3, b4⟩ := a4.step (by simp) (by simp)
          simp only [] at a1 a2 a3 b1 b2 b3 b4
          have e4 : ((4 : Nat) : Int) = 4 := rfl
          rw [e4] at a1 a2 a3 b1 b2 b3 b4
          have hsame := skip_0 b1
          rw [hsame] at b4
          rw [if_neg (by omega), if_pos (by omega), a2]
          obtain ⟨s', i1, i2, i3⟩ := ih t (l0 ++ [x]) (some x) _ tl (by omega) (by rw [List.length_append]; simp; omega) (fun y e => by
            cases e
            rw [List.length_append]
            refine ⟨by simp, ?_⟩
            simp) (fun y hy => hx y (List.mem_cons_of_mem _ hy)) b4
          refine ⟨s', by rw [i1, List.append_assoc]; rfl, i2, by have h9 := a3.trans i3; rw [ib]; exact ⟨h9.N, h9.n, h9.p.trans (by first | rfl | (simp only []; omega))⟩⟩
end Go.Blk
