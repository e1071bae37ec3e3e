/- A part of the proof. -/
import Derived.Test.YtgnkkopjkgdieaaGreatLaneBytesT
import Derived.Test.YtgnkkopjkgdieaaGreatLaneBytesGw
set_option linter.unusedVariables false
set_option linter.unusedSimpArgs false
set_option maxRecDepth 100000
namespace Go.Proofs.YtgnkkopjkgdieaaGreat
open Go Go.V Go.ChangeShapes Go.WideShapes Go.ChangeAt Go.RowKit
theorem Tryz.own:ownKnob Tryz.prog.godebug=none:=by kernel_rfl
theorem Tryz.laidOut:laidOutB Tryz.prog=true:=by kernel_rfl
end Go.Proofs.YtgnkkopjkgdieaaGreat
