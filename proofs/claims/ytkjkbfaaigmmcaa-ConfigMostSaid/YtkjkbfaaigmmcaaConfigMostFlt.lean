/- Floats in the models: the rank, and the order of the document's answer, are one. -/
import Derived.Test.YtkjkbfaaigmmcaaConfigMostM
import Derived.Test.YtkjkbfaaigmmcaaConfigMostGv
set_option linter.unusedVariables false
set_option linter.unusedSimpArgs false
set_option maxRecDepth 100000
namespace Go.Proofs.Ytkjkbfaaigmmcaa
open Go Go.V
end Go.Proofs.Ytkjkbfaaigmmcaa
