/- Commands that the tape draws. -/
import Derived.Test.YtijcfglomdfglaaCommandLongCodT
set_option linter.unusedVariables false
set_option linter.unusedSimpArgs false
set_option maxRecDepth 100000
namespace Go.Proofs.Ytijcfglomdfglaa
open Go Go.V
/-! ### Rules, commands -/
end Go.Proofs.Ytijcfglomdfglaa
