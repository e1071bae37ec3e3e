/- The store's rank of a float, in the models. -/
import Derived.Test.YtbdbeenkamcglaaNetMostM
import Derived.Test.YtbdbeenkamcglaaNetMostGv
set_option linter.unusedVariables false
set_option linter.unusedSimpArgs false
set_option maxRecDepth 100000
namespace Go.Proofs.Ytbdbeenkamcglaa
open Go Go.V
end Go.Proofs.Ytbdbeenkamcglaa
