/- The arguments of the laws on holds. -/
import Derived.Test.YtbdhhmnncknhhaaLocksKeepsLkT
import Derived.Test.YtbdhhmnncknhhaaLocksKeepsA
set_option linter.unusedVariables false
set_option linter.unusedSimpArgs false
set_option maxRecDepth 100000
namespace Go.Proofs.Ytbdhhmnncknhhaa
open Go Go.V
theorem lit_8 {v : Int} (h : (Lit.int .u64 v).wf = true) : isU 8 v := by
  have := lit_u64.1 h
  exact ⟨this.1, by rw [pw8]; omega⟩
end Go.Proofs.Ytbdhhmnncknhhaa
