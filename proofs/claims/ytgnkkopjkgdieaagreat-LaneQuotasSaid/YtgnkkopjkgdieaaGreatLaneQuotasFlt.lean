/- Floats in the models: the rank, and the order of the document's answer, are one. -/
import Derived.Test.YtgnkkopjkgdieaaGreatLaneQuotasM
import Derived.Test.YtgnkkopjkgdieaaGreatLaneQuotasGv
set_option linter.unusedVariables false
set_option linter.unusedSimpArgs false
set_option maxRecDepth 100000
namespace Go.Proofs.YtgnkkopjkgdieaaGreat
open Go Go.V
end Go.Proofs.YtgnkkopjkgdieaaGreat
