/- What the tape draws can be written, and comes back as it was. -/
import Derived.Test.YtbdhhmnncknhhaaLocksApartCodD
import Derived.Test.YtbdhhmnncknhhaaLocksApartTapeF
set_option linter.unusedVariables false
set_option linter.unusedSimpArgs false
set_option maxRecDepth 100000
namespace Go.Proofs.Ytbdhhmnncknhhaa
open Go Go.V
/-- f draws something of the tape. -/
def TP {α : Type} (f : ref12_Tape → Option (α × ref12_Tape)) (P : α → Prop) : Prop := ∀ t, tapeOK t → ∃ x t', f t = some (x, t') ∧ P x ∧ tapeOK t'
theorem TP.of {α : Type} {f g : ref12_Tape → Option (α × ref12_Tape)} {P : α → Prop} (h : ∀ r, f r = g r) (hg : TP g P) : TP f P := fun r hr => by rw [h]; exact hg r hr
section
variable {α S R : Type} {body : S → Option (S ⊕ R)} (st : ref12_Tape → List α → Int → S) (out : ref12_Tape → List α → R) {F : Int → ref12_Tape → Option (α × ref12_Tape)}
end
/-! ### Values -/
/-! ### Holds -/
/-! ### Writes, answers, rules -/
end Go.Proofs.Ytbdhhmnncknhhaa
