/- Are two holds, answers, commands one? They are, if they come back as one. -/
import Derived.Test.YtldfdainhdiffaaMailJunkCodD
import Derived.Test.YtldfdainhdiffaaMailJunkFltS
import Derived.Test.YtldfdainhdiffaaMailJunkGv
set_option linter.unusedVariables false
set_option linter.unusedSimpArgs false
set_option maxRecDepth 100000
namespace Go.Proofs.Ytldfdainhdiffaa
open Go Go.V
/-! ### Answers -/
/-! ### Holds -/
end Go.Proofs.Ytldfdainhdiffaa
