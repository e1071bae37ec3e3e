/- A command's bytes are bytes. -/
import Derived.Test.YtijcfglomdfglaaCommandLongCodD
set_option linter.unusedVariables false
set_option linter.unusedSimpArgs false
set_option maxRecDepth 100000
namespace Go.Proofs.Ytijcfglomdfglaa
open Go Go.V
end Go.Proofs.Ytijcfglomdfglaa
