/- An answer's bytes, as the document has them. -/
import Derived.Test.YtldfdainhdiffaaMailJunkCodFH
import Derived.Test.YtldfdainhdiffaaMailJunkCodWP
set_option linter.unusedVariables false
set_option linter.unusedSimpArgs false
set_option maxRecDepth 100000
namespace Go.Proofs.Ytldfdainhdiffaa
open Go Go.V
end Go.Proofs.Ytldfdainhdiffaa
