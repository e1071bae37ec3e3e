/- A command is read. -/
import Derived.Test.YtbdhhmnncknhhaaLocksKeepsCodRP
import Derived.Test.YtbdhhmnncknhhaaLocksKeepsCodWC
import Derived.Test.YtbdhhmnncknhhaaLocksKeepsSlEq
set_option linter.unusedVariables false
set_option linter.unusedSimpArgs false
set_option maxRecDepth 100000
namespace Go.Proofs.Ytbdhhmnncknhhaa
open Go Go.V
/-! ### Parts -/
noncomputable def rdId (r : octet_Reader) : Option (api_ID × octet_Reader) := (octet_Reader_Num r (8:Int)).bind fun a => (octet_Reader_Num a.2 (8:Int)).bind fun b => some (({ Session := a.1, Seq := b.1 } : api_ID), b.2)
def idG (x : api_ID) : Prop := isU 8 x.Session ∧ isU 8 x.Seq
def cId (x : api_ID) : api_ID := { Session := x.Session, Seq := x.Seq }
theorem RD.id {x : api_ID} (h : idG x) : RD rdId (idB x) (cId x) := by
  refine RD.bind (RD.n8 h.1) ?_
  dsimp only
  exact RD.map (RD.n8 h.2) fun r => rfl
theorem TT.id : TT rdId idG := by
  refine TT.bind TT.n8 fun a ha => ?_
  dsimp only
  refine TT.bind TT.n8 fun b hb => ?_
  dsimp only
  exact TT.ret (P := idG) ⟨ha, hb⟩
/-! ### The body -/
end Go.Proofs.Ytbdhhmnncknhhaa
