/- A command is read. -/
import Derived.Test.YtkfifhkjdibadaaSessionBytesCodRP
import Derived.Test.YtkfifhkjdibadaaSessionBytesCodWC
import Derived.Test.YtkfifhkjdibadaaSessionBytesSlEq
set_option linter.unusedVariables false
set_option linter.unusedSimpArgs false
set_option maxRecDepth 100000
namespace Go.Proofs.Ytkfifhkjdibadaa
open Go Go.V
/-! ### Parts -/
/-! ### The body -/
end Go.Proofs.Ytkfifhkjdibadaa
