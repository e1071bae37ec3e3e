/- The arguments of the statements. -/
import Derived.Test.YtbdnbohbmgmonaaMvccBytesMvC
import Derived.Test.YtbdnbohbmgmonaaMvccBytesA
set_option linter.unusedVariables false
set_option linter.unusedSimpArgs false
set_option maxRecDepth 100000
namespace Go.Proofs.Ytbdnbohbmgmonaa
open Go Go.V
theorem verG_of {x : law11_Ver} (o : ok_law11_Ver x) : verG x := by
  obtain ⟨h1, h2, h3, h4, _, h5⟩ := o
  exact ⟨lit_u8.1 h1, f64_lt h2, lit_u8.1 h3, lit_u8.1 h4, fun y hy => lit_u8.1 (h5.2 y hy)⟩
end Go.Proofs.Ytbdnbohbmgmonaa
