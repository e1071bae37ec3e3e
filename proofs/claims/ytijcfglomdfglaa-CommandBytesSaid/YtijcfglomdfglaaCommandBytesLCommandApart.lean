/- Unlike commands have unlike bytes: the plain law. -/
import Derived.Test.YtijcfglomdfglaaCommandBytesCodSC
import Derived.Test.YtijcfglomdfglaaCommandBytesCodT
import Derived.Test.YtijcfglomdfglaaCommandBytesCodA
import Derived.Test.YtijcfglomdfglaaCommandBytesA
set_option linter.unusedVariables false
set_option linter.unusedSimpArgs false
set_option maxRecDepth 100000
namespace Go.Proofs.Ytijcfglomdfglaa
open Go Go.V
theorem tape_start {l : List Int} (hl : l.length ≤ 1000000) (h : ∀ x ∈ l, (Lit.int .u8 x).wf = true) : tapeOK { L := l, I := 0 } := ⟨Int.le_refl _, hl, fun x hx => lit_u8.1 (h x hx)⟩
end Go.Proofs.Ytijcfglomdfglaa
