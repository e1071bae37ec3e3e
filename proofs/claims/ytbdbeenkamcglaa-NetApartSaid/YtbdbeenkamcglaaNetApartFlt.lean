/- Floats in the models: the rank, and the order of the document's answer, are one. -/
import Derived.Test.YtbdbeenkamcglaaNetApartM
import Derived.Test.YtbdbeenkamcglaaNetApartGv
set_option linter.unusedVariables false
set_option linter.unusedSimpArgs false
set_option maxRecDepth 100000
namespace Go.Proofs.Ytbdbeenkamcglaa
open Go Go.V
end Go.Proofs.Ytbdbeenkamcglaa
