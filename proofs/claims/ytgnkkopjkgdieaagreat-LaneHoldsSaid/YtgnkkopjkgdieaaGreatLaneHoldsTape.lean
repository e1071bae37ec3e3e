/- The tape that draws: each number is one of those that may come. -/
import Derived.Test.YtgnkkopjkgdieaaGreatLaneHoldsM
import Derived.Test.YtgnkkopjkgdieaaGreatLaneHoldsGv
set_option linter.unusedVariables false
set_option linter.unusedSimpArgs false
set_option maxRecDepth 100000
namespace Go.Proofs.YtgnkkopjkgdieaaGreat
open Go Go.V
def tapeOK (t : ref12_Tape) : Prop := 0 ≤ t.I ∧ t.L.length ≤ 1000000 ∧ ∀ x ∈ t.L, 0 ≤ x ∧ x < 256
end Go.Proofs.YtgnkkopjkgdieaaGreat
