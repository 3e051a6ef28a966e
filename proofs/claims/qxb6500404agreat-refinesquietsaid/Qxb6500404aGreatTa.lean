import Derived.Test.Qxb6500404aGreatRh
import Derived.Test.Qxb6500404aGreatSg
set_option linter.unusedVariables false
set_option linter.unusedSimpArgs false
namespace Go.Arc
open Go.Bits Go.Huf Go.Blk
open Go.Eng (bAt mkS)
/-! ### the container's frame, plainly -/
def w2 (raw : ByteArray) (i : Nat) : Nat := bAt raw i + bAt raw (i + 1) * 256
theorem w2_lt (raw : ByteArray) (i : Nat) : w2 raw i < 65536 := by
  have h1 := bAt_lt raw i
  have h2 := bAt_lt raw (i + 1)
  unfold w2; omega
/-- the trailer: count, directory, error, place -/
def tlF (raw : ByteArray) : Nat × Nat × Nat × Nat :=
  if raw.size < 4 then (0, 0, 14, 0)
  else if bAt raw (raw.size - 1) ≠ 90 then (0, 0, 14, 0)
  else if 4 < bAt raw (raw.size - 4) then (0, 0, 17, raw.size - 4)
  else if w2 raw (raw.size - 3) + 2 * bAt raw (raw.size - 4) ≠ raw.size - 4 then (0, 0, 15, raw.size - 3)
  else (bAt raw (raw.size - 4), w2 raw (raw.size - 3), 0, 0)
structure RC where
  off : Nat
  head : Nat
  to : Nat
  size : Nat
  sum : Nat
/-- a record, told by its cell -/
def spR (raw : ByteArray) (cell : Nat) : RC := ⟨w2 raw cell, w2 raw cell + 1 + bAt raw (w2 raw cell), w2 raw cell + 1 + bAt raw (w2 raw cell) + 6 + w2 raw (w2 raw cell + 1 + bAt raw (w2 raw cell) + 2), w2 raw (w2 raw cell + 1 + bAt raw (w2 raw cell)), w2 raw (w2 raw cell + 1 + bAt raw (w2 raw cell) + 4)⟩
def spE (raw : ByteArray) (dir cell : Nat) : Nat × Nat :=
  if dir ≤ (spR raw cell).off then (15, cell)
  else if dir < (spR raw cell).head + 6 then (15, cell)
  else if dir < (spR raw cell).to then (15, cell)
  else if bAt raw (spR raw cell).off = 0 ∨ 8 < bAt raw (spR raw cell).off then (16, (spR raw cell).off)
  else if 256 < (spR raw cell).size then (19, (spR raw cell).off)
  else if 512 < w2 raw ((spR raw cell).head + 2) then (1, (spR raw cell).off)
  else (0, 0)
/-- the first cell at fault among n cells from i on -/
def frE (raw : ByteArray) (dir : Nat) : Nat → Nat → Nat × Nat
  | 0, _ => (0, 0)
  | n + 1, i => if (spE raw dir (dir + 2 * i)).1 ≠ 0 then spE raw dir (dir + 2 * i) else frE raw dir n (i + 1)
def frF (raw : ByteArray) : Nat × Nat × Nat :=
  if (tlF raw).2.2.1 ≠ 0 then (0, (tlF raw).2.2.1, (tlF raw).2.2.2)
  else if (frE raw (tlF raw).2.1 (tlF raw).1 0).1 ≠ 0 then (0, (frE raw (tlF raw).2.1 (tlF raw).1 0).1, (frE raw (tlF raw).2.1 (tlF raw).1 0).2)
  else ((tlF raw).1, 0, 0)
end Go.Arc
