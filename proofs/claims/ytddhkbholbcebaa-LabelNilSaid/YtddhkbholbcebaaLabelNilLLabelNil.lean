/- A nil lattice has no labels: the plain law. -/
import Derived.Test.YtddhkbholbcebaaLabelNilLbW
set_option linter.unusedVariables false
set_option linter.unusedSimpArgs false
namespace Go.Proofs.Ytddhkbholbcebaa
open Go Go.V
theorem labelNil_plain {a0 a1 : Int} (_ : (Lit.int .i64 a0).wf = true) (_ : (Lit.int .i64 a1).wf = true) : law03_LabelNil a0 a1 = some true := by
  have hlen : label_Lattice_Len none = some 0 := rfl
  have his : ∀ a : Int, label_Lattice_Is none a = some false := fun a => by
    simp only [label_Lattice_Is, hlen, Option.bind_some]
    by_cases h : a ≥ 0
    · have : ¬ a < 0 := by omega
      simp [h, this]
    · simp [h]
  have hbel : label_Lattice_Below none a0 = some [] := by
    simp only [label_Lattice_Below, hlen, Option.bind_some]
    rw [loopO_eq]
    rfl
  simp only [law03_LabelNil, lb_awake, Option.bind_some, cond_true, hlen, his, Bool.not_false, label_Lattice_Leq, label_Lattice_Join, label_Lattice_Meet, label_Lattice_Bottom, label_Lattice_Top, label_Lattice_Rank, label_Lattice_Order, hbel, cond_false]
  rfl
end Go.Proofs.Ytddhkbholbcebaa
