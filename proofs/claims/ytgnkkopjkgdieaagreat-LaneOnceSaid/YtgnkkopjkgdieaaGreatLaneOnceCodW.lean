/- What lays bytes: a small algebra of writers. -/
import Derived.Test.YtgnkkopjkgdieaaGreatLaneOnceOctW
import Derived.Test.YtgnkkopjkgdieaaGreatLaneOnceFltR
set_option linter.unusedVariables false
set_option linter.unusedSimpArgs false
set_option maxRecDepth 100000
namespace Go.Proofs.YtgnkkopjkgdieaaGreat
open Go Go.V
/-- A number of any sign, as an unsigned one. -/
def un (v : Int) : Nat := (IntKind.u64.wrap v).toNat
/-- A truth. -/
def flB (b : Bool) : List Int := leB 1 (if b then 1 else 0)
/-- Bytes behind their number. -/
def byB (l : List Int) : List Int := leB 4 l.length ++ l
end Go.Proofs.YtgnkkopjkgdieaaGreat
