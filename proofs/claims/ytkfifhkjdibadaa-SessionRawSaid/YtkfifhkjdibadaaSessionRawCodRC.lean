/- A command is read. -/
import Derived.Test.YtkfifhkjdibadaaSessionRawCodRP
import Derived.Test.YtkfifhkjdibadaaSessionRawCodWC
import Derived.Test.YtkfifhkjdibadaaSessionRawSlEq
set_option linter.unusedVariables false
set_option linter.unusedSimpArgs false
set_option maxRecDepth 100000
namespace Go.Proofs.Ytkfifhkjdibadaa
open Go Go.V
/-! ### Parts -/
/-! ### The body -/
end Go.Proofs.Ytkfifhkjdibadaa
