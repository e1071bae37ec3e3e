/- The reader of numbers. -/
import Derived.Test.YtgnkkopjkgdieaaGreatLaneReadsM
import Derived.Test.YtgnkkopjkgdieaaGreatLaneReadsGv
set_option linter.unusedVariables false
set_option linter.unusedSimpArgs false
set_option maxRecDepth 100000
namespace Go.Proofs.YtgnkkopjkgdieaaGreat
open Go Go.V
/-- A reader over bytes. -/
def rdOK (r : octet_Reader) : Prop := r.p.length ≤ 1000000000 ∧ ∀ x ∈ r.p, isU8 x
end Go.Proofs.YtgnkkopjkgdieaaGreat
