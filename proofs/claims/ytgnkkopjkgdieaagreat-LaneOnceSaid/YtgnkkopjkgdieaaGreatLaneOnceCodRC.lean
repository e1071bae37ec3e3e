/- A command is read. -/
import Derived.Test.YtgnkkopjkgdieaaGreatLaneOnceCodRP
import Derived.Test.YtgnkkopjkgdieaaGreatLaneOnceCodWC
import Derived.Test.YtgnkkopjkgdieaaGreatLaneOnceSlEq
set_option linter.unusedVariables false
set_option linter.unusedSimpArgs false
set_option maxRecDepth 100000
namespace Go.Proofs.YtgnkkopjkgdieaaGreat
open Go Go.V
/-! ### Parts -/
/-! ### The body -/
end Go.Proofs.YtgnkkopjkgdieaaGreat
