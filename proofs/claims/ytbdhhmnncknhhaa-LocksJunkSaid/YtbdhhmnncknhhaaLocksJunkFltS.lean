/- Two floats are the same to the document's answer just if their ranks are. -/
import Derived.Test.YtbdhhmnncknhhaaLocksJunkFlt
set_option linter.unusedVariables false
set_option linter.unusedSimpArgs false
namespace Go.Proofs.Ytbdhhmnncknhhaa
open Go Go.V
end Go.Proofs.Ytbdhhmnncknhhaa
