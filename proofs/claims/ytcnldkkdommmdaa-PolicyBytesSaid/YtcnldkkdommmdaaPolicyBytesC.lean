/- What the laws of the policy begin with: the book is awake. -/
import Derived.Test.YtcnldkkdommmdaaPolicyBytesM
set_option linter.unusedVariables false
set_option linter.unusedSimpArgs false
set_option maxRecDepth 100000
namespace Go.Proofs.Ytcnldkkdommmdaa
open Go Go.V
theorem awake_true : law15_awake = some true := by
  have h1 : policy_Book_Revoke (some { l := [] }) 5 2 = some (false, some { l := [] }) := loopO_of (n := 3) (by kernel_rfl)
  have h2 : policy_Book_Grant (some { l := [] }) { ID := 5, From := 0, To := 0, Lo := 0, Hi := 0, Authority := 0, Quota := 1 } 2 = some (some { l := [{ r := { ID := 5, From := 0, To := 0, Lo := 0, Hi := 0, Authority := 0, Quota := 1 }, from_ := 2, to_ := 0 }] }) := by
    simp [policy_Book_Grant, h1, gd, room]
  have h3 : policy_Book_Revoke (some { l := [{ r := { ID := 5, From := 0, To := 0, Lo := 0, Hi := 0, Authority := 0, Quota := 1 }, from_ := 2, to_ := 0 }] }) 5 4 = some (true, some { l := [{ r := { ID := 5, From := 0, To := 0, Lo := 0, Hi := 0, Authority := 0, Quota := 1 }, from_ := 2, to_ := 4 }] }) := loopO_of (n := 3) (by kernel_rfl)
  have h4 : policy_Book_At (some { l := [{ r := { ID := 5, From := 0, To := 0, Lo := 0, Hi := 0, Authority := 0, Quota := 1 }, from_ := 2, to_ := 4 }] }) 5 1 = some ({ ID := 0, From := 0, To := 0, Lo := 0, Hi := 0, Authority := 0, Quota := 0 }, false) := loopO_of (n := 3) (by kernel_rfl)
  have h5 : policy_Book_At (some { l := [{ r := { ID := 5, From := 0, To := 0, Lo := 0, Hi := 0, Authority := 0, Quota := 1 }, from_ := 2, to_ := 4 }] }) 5 3 = some ({ ID := 5, From := 0, To := 0, Lo := 0, Hi := 0, Authority := 0, Quota := 1 }, true) := loopO_of (n := 3) (by kernel_rfl)
  have h6 : policy_Book_At (some { l := [{ r := { ID := 5, From := 0, To := 0, Lo := 0, Hi := 0, Authority := 0, Quota := 1 }, from_ := 2, to_ := 4 }] }) 5 4 = some ({ ID := 0, From := 0, To := 0, Lo := 0, Hi := 0, Authority := 0, Quota := 0 }, false) := loopO_of (n := 3) (by kernel_rfl)
  simp [law15_awake, policy_New, h2, h3, h4, h5, h6]
end Go.Proofs.Ytcnldkkdommmdaa
