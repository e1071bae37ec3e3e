/- Two floats are the same to the document's answer just if their ranks are. -/
import Derived.Test.YtgnkkopjkgdieaaGreatLaneQuotasFlt
set_option linter.unusedVariables false
set_option linter.unusedSimpArgs false
namespace Go.Proofs.YtgnkkopjkgdieaaGreat
open Go Go.V
end Go.Proofs.YtgnkkopjkgdieaaGreat
