/- A command's bytes, read back; and what any bytes are read as. -/
import Derived.Test.YtgnkkopjkgdieaaGreatLaneReadsCodRC
set_option linter.unusedVariables false
set_option linter.unusedSimpArgs false
set_option maxRecDepth 100000
namespace Go.Proofs.YtgnkkopjkgdieaaGreat
open Go Go.V
/-! ### What comes back has the same bytes -/
/-! ### Commands -/
/-! ### Lengths -/
/-! ### Reading back -/
end Go.Proofs.YtgnkkopjkgdieaaGreat
