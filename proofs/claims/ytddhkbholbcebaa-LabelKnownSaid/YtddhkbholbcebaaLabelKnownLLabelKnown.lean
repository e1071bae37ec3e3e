/- A chain, a diamond, all subsets of three are lattices: the plain law. -/
import Derived.Test.YtddhkbholbcebaaLabelKnownLbW
set_option linter.unusedVariables false
set_option linter.unusedSimpArgs false
namespace Go.Proofs.Ytddhkbholbcebaa
open Go Go.V
theorem labelKnown_plain {a0 : Int} (o0 : (Lit.int .u8 a0).wf = true) : law03_LabelKnown a0 = some true := by
  obtain ⟨us, h1, hw, h2, h3, h4⟩ := known (lit_u8.1 o0)
  simp only [law03_LabelKnown, h1, h4, Option.bind_some, lb_awake, cond_true, told_eq hw h2 h3]
  rfl
end Go.Proofs.Ytddhkbholbcebaa
