/- The document's check, and what a lattice tells; plainly. -/
import Derived.Test.YtkjkbfaaigmmcaaConfigRulesLbS
set_option linter.unusedVariables false
set_option linter.unusedSimpArgs false
set_option maxRecDepth 100000
namespace Go.Proofs.Ytkjkbfaaigmmcaa
open Go Go.V
variable {us : List Nat}
/-! ### What a lattice tells -/
def inR (us : List Nat) (a : Int) : Bool := decide (a ≥ (0:Int)) && decide (a < (us.length : Int))
theorem lf_up (us : List Nat) : (latF us).up = up us := rfl
theorem len_eqL (us : List Nat) : label_Lattice_Len (some (latF us)) = some (us.length : Int) := by simp only [label_Lattice_Len, lf_up, up_len]
theorem is_eq (us : List Nat) (a : Int) : label_Lattice_Is (some (latF us)) a = some (inR us a) := by
  simp only [label_Lattice_Is, len_eqL, Option.bind_some, inR]
  cases decide (a ≥ (0:Int)) <;> rfl
end Go.Proofs.Ytkjkbfaaigmmcaa
