/- The document's check, and what a lattice tells; plainly. -/
import Derived.Test.YtbdbeenkamcglaaNetApartLbS
set_option linter.unusedVariables false
set_option linter.unusedSimpArgs false
set_option maxRecDepth 100000
namespace Go.Proofs.Ytbdbeenkamcglaa
open Go Go.V
variable {us : List Nat}
/-! ### What a lattice tells -/
theorem lf_up (us : List Nat) : (latF us).up = up us := rfl
theorem len_eqL (us : List Nat) : label_Lattice_Len (some (latF us)) = some (us.length : Int) := by simp only [label_Lattice_Len, lf_up, up_len]
theorem get_srt {i : Nat} (hi : i < (srt us).length) : geto (up (srt us)) (i : Int) = some (((srt us)[i] : Nat) : Int) := by rw [get_up hi, ub, List.getElem?_eq_getElem hi]; rfl
end Go.Proofs.Ytbdbeenkamcglaa
