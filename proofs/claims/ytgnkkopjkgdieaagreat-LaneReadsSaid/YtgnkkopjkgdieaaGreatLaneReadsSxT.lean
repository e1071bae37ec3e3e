/- The last answers of sessions: what the table does, plainly. -/
import Derived.Test.YtgnkkopjkgdieaaGreatLaneReadsM
import Derived.Test.YtgnkkopjkgdieaaGreatLaneReadsGv
set_option linter.unusedVariables false
set_option linter.unusedSimpArgs false
set_option maxRecDepth 100000
namespace Go.Proofs.YtgnkkopjkgdieaaGreat
open Go Go.V
end Go.Proofs.YtgnkkopjkgdieaaGreat
