/- A slice that is made. Generic over the program. -/
import Derived.Test.YtijcfglomdfglaaGvCmp
import Derived.Test.YtijcfglomdfglaaGvFloat
set_option linter.unusedVariables false
set_option linter.unusedSimpArgs false
namespace Go.V
open Go
section
variable {P : Program} {w0 w : World} {I : HL} {L : List SP} {R : SP} {α : Type} {E : Ty α}
end
end Go.V
