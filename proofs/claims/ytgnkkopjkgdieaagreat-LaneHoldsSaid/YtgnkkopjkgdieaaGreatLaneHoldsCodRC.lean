/- A command is read. -/
import Derived.Test.YtgnkkopjkgdieaaGreatLaneHoldsCodRP
import Derived.Test.YtgnkkopjkgdieaaGreatLaneHoldsCodWC
import Derived.Test.YtgnkkopjkgdieaaGreatLaneHoldsSlEq
set_option linter.unusedVariables false
set_option linter.unusedSimpArgs false
set_option maxRecDepth 100000
namespace Go.Proofs.YtgnkkopjkgdieaaGreat
open Go Go.V
/-! ### Parts -/
def idG (x : api_ID) : Prop := isU 8 x.Session ∧ isU 8 x.Seq
/-! ### The body -/
end Go.Proofs.YtgnkkopjkgdieaaGreat
