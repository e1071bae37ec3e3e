/- A hold's bytes. -/
import Derived.Test.YtgnkkopjkgdieaaGreatLaneReadsCodW
set_option linter.unusedVariables false
set_option linter.unusedSimpArgs false
set_option maxRecDepth 100000
namespace Go.Proofs.YtgnkkopjkgdieaaGreat
open Go Go.V
def isF (x : Nat) : Prop := x < 18446744073709551616
end Go.Proofs.YtgnkkopjkgdieaaGreat
