/- A lane: the example, and writes that have just so many bytes; plainly. -/
import Derived.Test.YtgnkkopjkgdieaaGreatLaneReadsFltS
import Derived.Test.YtgnkkopjkgdieaaGreatLaneReadsFltR
import Derived.Test.YtgnkkopjkgdieaaGreatLaneReadsGv
set_option linter.unusedVariables false
set_option linter.unusedSimpArgs false
set_option maxRecDepth 100000
namespace Go.Proofs.YtgnkkopjkgdieaaGreat
open Go Go.V
theorem ln_until (e : Int) : locks_Table_Until (some { l := [] }) e = some false := by
  have h : loopO (locks_Table_Until_l0 { l := [] } e) (0:Int) = some (-1) := by rw [loopO_eq]; rfl
  simp only [locks_Table_Until, h, Option.bind_some]; rfl
theorem ln_awake : law16_awake = some true := by
  unfold law16_awake
  simp only [lane_New, mvcc_New, locks_New, session_New, policy_New, Option.bind_some]
  unfold lane_State_Apply
  unfold lane_State_shut lane_State_May
  simp only [ln_until]
  rfl
end Go.Proofs.YtgnkkopjkgdieaaGreat
