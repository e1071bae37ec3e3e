/- Are two holds, answers, commands one? They are, if they come back as one. -/
import Derived.Test.YtbdhhmnncknhhaaLocksJunkCodD
import Derived.Test.YtbdhhmnncknhhaaLocksJunkFltS
import Derived.Test.YtbdhhmnncknhhaaLocksJunkGv
set_option linter.unusedVariables false
set_option linter.unusedSimpArgs false
set_option maxRecDepth 100000
namespace Go.Proofs.Ytbdhhmnncknhhaa
open Go Go.V
/-! ### Answers -/
/-! ### Holds -/
end Go.Proofs.Ytbdhhmnncknhhaa
