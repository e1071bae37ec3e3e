/- Back from a rank. -/
import Derived.Test.YtbdnbohbmgmonaaMvccTrimsFltR
set_option linter.unusedVariables false
set_option linter.unusedSimpArgs false
set_option maxRecDepth 100000
namespace Go.Proofs.Ytbdnbohbmgmonaa
open Go Go.V
end Go.Proofs.Ytbdnbohbmgmonaa
