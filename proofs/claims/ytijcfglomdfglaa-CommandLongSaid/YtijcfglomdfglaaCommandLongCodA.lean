/- The guards of the laws on commands. -/
import Derived.Test.YtijcfglomdfglaaCommandLongCodU
import Derived.Test.YtijcfglomdfglaaCommandLongGv
set_option linter.unusedVariables false
set_option linter.unusedSimpArgs false
set_option maxRecDepth 100000
namespace Go.Proofs.Ytijcfglomdfglaa
open Go Go.V
theorem awake_eq : law13_awake = some true := by
  have hg : cmdG { zC with Kind := 1, Epoch := 3 } := ⟨kd 1 (by decide), ⟨u0 8, u0 8⟩, ⟨by decide, by decide⟩, u0 8, u0 1, zH_G, zW_G, zR_G, u0 2, Nat.zero_le _, no_mem, zL_G⟩
  have e := encode_G hg
  show ((command_Encode { zC with Kind := 1, Epoch := 3 }).bind fun t43 => (bif (sEq (toStr t43) (ByteArray.mk #[1, 3, 0, 0, 0, 0, 0, 0, 0])) then (some true) else (some false))) = _
  rw [e, Option.bind_some]
  have e2 : sEq (toStr (cmdB { zC with Kind := 1, Epoch := 3 })) (ByteArray.mk #[1, 3, 0, 0, 0, 0, 0, 0, 0]) = true := by
    unfold sEq
    rw [toList_data, toList_data, toStr_data]
    decide
  rw [e2]; rfl
end Go.Proofs.Ytijcfglomdfglaa
