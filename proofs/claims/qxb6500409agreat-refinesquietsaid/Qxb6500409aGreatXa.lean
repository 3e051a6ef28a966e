import Derived.Test.Qxb6500409aGreatSa
set_option linter.unusedVariables false
set_option linter.unusedSimpArgs false
namespace Go.Proofs.Qxb6500409aGreat.HufW
open Go.Eng Go.Huf

def HC.k (u : HC) : Nat → Nat := nk u.wt u.ht u.num
/-- the nodes at hand are small -/
def Sm (u : HC) (P : Nat → Prop) : Prop := ∀ y, P y → y < 529 ∧ u.ht y < 1024 ∧ u.num y < 1024
end Go.Proofs.Qxb6500409aGreat.HufW
