/- What any bytes are read as has just these bytes. -/
import Derived.Test.YtldfdainhdiffaaMailApartCodD
set_option linter.unusedVariables false
set_option linter.unusedSimpArgs false
set_option maxRecDepth 100000
namespace Go.Proofs.Ytldfdainhdiffaa
open Go Go.V
def kG (k : Int) (c : api_Command) : Prop := cmdG { c with Kind := k }
theorem TT.b4 : TT b4 (kG 4) := by
  refine TT.bind TT.id fun i hi => ?_
  dsimp only
  refine TT.bind TT.n8 fun p hp => ?_
  dsimp only
  refine TT.bind TT.n2 fun s hs => ?_
  dsimp only
  refine TT.bind TT.parts fun l hl => ?_
  dsimp only
  refine TT.bind TT.reply fun x hx => ?_
  dsimp only
  exact TT.ret (P := kG 4) ⟨kd 4 (by decide), hi, hp, u0 8, u0 1, zH_G, zW_G, hx, hs, Int.ofNat_le.1 hl.1, hl.2, zL_G⟩
theorem TT.b5 : TT b5 (kG 5) := by
  refine TT.bind TT.id fun i hi => ?_
  dsimp only
  exact TT.ret (P := kG 5) ⟨kd 5 (by decide), hi, u0 8, u0 8, u0 1, zH_G, zW_G, zR_G, u0 2, Nat.zero_le _, no_mem, zL_G⟩
theorem TT.b6 : TT b6 (kG 6) := by
  refine TT.bind TT.rule fun r hr => ?_
  dsimp only
  refine TT.bind TT.flag fun o _ => ?_
  dsimp only
  exact TT.ret (P := kG 6) ⟨kd 6 (by decide), ⟨u0 8, u0 8⟩, u0 8, u0 8, u0 1, zH_G, zW_G, zR_G, u0 2, Nat.zero_le _, no_mem, hr⟩
theorem TT.b7 : TT b7 (kG 7) := by
  refine TT.bind TT.id fun i hi => ?_
  dsimp only
  refine TT.bind TT.n8 fun p hp => ?_
  dsimp only
  refine TT.bind TT.rule fun r hr => ?_
  dsimp only
  refine TT.bind TT.writes fun w hw => ?_
  dsimp only
  refine TT.bind TT.reply fun x hx => ?_
  dsimp only
  exact TT.ret (P := kG 7) ⟨kd 7 (by decide), hi, hp, u0 8, u0 1, zH_G, hw, hx, u0 2, Nat.zero_le _, no_mem, hr⟩
end Go.Proofs.Ytldfdainhdiffaa
