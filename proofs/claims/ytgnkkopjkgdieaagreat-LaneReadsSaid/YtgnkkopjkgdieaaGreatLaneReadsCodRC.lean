/- A command is read. -/
import Derived.Test.YtgnkkopjkgdieaaGreatLaneReadsCodRP
import Derived.Test.YtgnkkopjkgdieaaGreatLaneReadsCodWC
import Derived.Test.YtgnkkopjkgdieaaGreatLaneReadsSlEq
set_option linter.unusedVariables false
set_option linter.unusedSimpArgs false
set_option maxRecDepth 100000
namespace Go.Proofs.YtgnkkopjkgdieaaGreat
open Go Go.V
def writeG (x : api_Write) : Prop := isF x.At ∧ x.Val.length ≤ 256 ∧ U8s x.Val
def writesG (l : List api_Write) : Prop := l.length ≤ 32 ∧ ∀ x ∈ l, writeG x
def cWrite (x : api_Write) : api_Write := { At := cf x.At, Del := x.Del, Val := x.Val }
def cWrites (l : List api_Write) : List api_Write := l.map cWrite
/-! ### Parts -/
def idG (x : api_ID) : Prop := isU 8 x.Session ∧ isU 8 x.Seq
/-! ### The body -/
end Go.Proofs.YtgnkkopjkgdieaaGreat
