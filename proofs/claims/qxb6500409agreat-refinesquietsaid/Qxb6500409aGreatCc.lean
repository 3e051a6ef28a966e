import Derived.Test.Qxb6500409aGreatCb
set_option linter.unusedVariables false
set_option linter.unusedSimpArgs false
namespace Go.Proofs.Qxb6500409aGreat.LzW
open Go.Eng Go.Lz
end Go.Proofs.Qxb6500409aGreat.LzW
