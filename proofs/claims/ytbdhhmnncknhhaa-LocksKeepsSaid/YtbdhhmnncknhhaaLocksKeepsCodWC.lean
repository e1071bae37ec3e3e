/- The bytes of a command. -/
import Derived.Test.YtbdhhmnncknhhaaLocksKeepsCodWP
set_option linter.unusedVariables false
set_option linter.unusedSimpArgs false
set_option maxRecDepth 100000
namespace Go.Proofs.Ytbdhhmnncknhhaa
open Go Go.V
end Go.Proofs.Ytbdhhmnncknhhaa
