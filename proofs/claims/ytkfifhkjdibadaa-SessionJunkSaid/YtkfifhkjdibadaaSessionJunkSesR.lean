/- The last answers of sessions: what the document says, and that the table tells the same; plainly. -/
import Derived.Test.YtkfifhkjdibadaaSessionJunkSesP
import Derived.Test.YtkfifhkjdibadaaSessionJunkCodT
import Derived.Test.YtkfifhkjdibadaaSessionJunkCodS
set_option linter.unusedVariables false
set_option linter.unusedSimpArgs false
set_option maxRecDepth 100000
namespace Go.Proofs.Ytkfifhkjdibadaa
open Go Go.V
/-! ### What the document tells -/
end Go.Proofs.Ytkfifhkjdibadaa
