/- The arguments of the laws on holds. -/
import Derived.Test.YtbdhhmnncknhhaaLocksJunkLkT
import Derived.Test.YtbdhhmnncknhhaaLocksJunkA
set_option linter.unusedVariables false
set_option linter.unusedSimpArgs false
set_option maxRecDepth 100000
namespace Go.Proofs.Ytbdhhmnncknhhaa
open Go Go.V
theorem tape_of {l : List Int} (o : l.length ≤ maxLen ∧ ∀ x ∈ l, (Lit.int .u8 x).wf = true) (hn : l.length ≤ 1000000) : tapeOK { L := l, I := 0 } := ⟨Int.le_refl _, hn, fun x hx => lit_u8.1 (o.2 x hx)⟩
end Go.Proofs.Ytbdhhmnncknhhaa
