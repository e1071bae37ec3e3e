/- Are two holds, answers, commands one? They are, if they come back as one. -/
import Derived.Test.YtkfifhkjdibadaaSessionJunkCodD
import Derived.Test.YtkfifhkjdibadaaSessionJunkFltS
import Derived.Test.YtkfifhkjdibadaaSessionJunkGv
set_option linter.unusedVariables false
set_option linter.unusedSimpArgs false
set_option maxRecDepth 100000
namespace Go.Proofs.Ytkfifhkjdibadaa
open Go Go.V
/-! ### Answers -/
/-! ### Holds -/
end Go.Proofs.Ytkfifhkjdibadaa
