/- Unlike commands have unlike bytes: the plain law. -/
import Derived.Test.YtijcfglomdfglaaCommandLongCodSC
import Derived.Test.YtijcfglomdfglaaCommandLongCodTC
import Derived.Test.YtijcfglomdfglaaCommandLongCodA
import Derived.Test.YtijcfglomdfglaaCommandLongA
set_option linter.unusedVariables false
set_option linter.unusedSimpArgs false
set_option maxRecDepth 100000
namespace Go.Proofs.Ytijcfglomdfglaa
open Go Go.V
end Go.Proofs.Ytijcfglomdfglaa
