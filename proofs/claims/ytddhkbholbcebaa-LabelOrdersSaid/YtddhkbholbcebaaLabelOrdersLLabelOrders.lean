/- Labels that are ordered in any way: the plain law. -/
import Derived.Test.YtddhkbholbcebaaLabelOrdersLbW
set_option linter.unusedVariables false
set_option linter.unusedSimpArgs false
namespace Go.Proofs.Ytddhkbholbcebaa
open Go Go.V
theorem labelOrders_plain {a0 : Int} {a1 : List Int} (o0 : (Lit.int .u8 a0).wf = true) (o1 : a1.length ≤ maxLen ∧ ∀ x ∈ a1, (Lit.int .u8 x).wf = true) : law03_LabelOrders a0 a1 = some true := by
  unfold law03_LabelOrders
  simp only [lb_awake, Option.bind_some, Bool.not_true, cond_false]
  obtain ⟨us, h, hw, _⟩ := order_any (lit_u8.1 o0) o1.1
  obtain ⟨r, c, h1, h2, h3⟩ := any_told hw
  simp only [h, h1, h2, Option.bind_some]
  rcases h3 with ⟨hc, rfl⟩ | ⟨rfl, rfl, _, _, _, _, ht⟩
  · have e2 : (c != (0:Int)) = true := by simpa using hc
    simp [e2]
  · simp only [ht, Option.bind_some]; rfl
end Go.Proofs.Ytddhkbholbcebaa
