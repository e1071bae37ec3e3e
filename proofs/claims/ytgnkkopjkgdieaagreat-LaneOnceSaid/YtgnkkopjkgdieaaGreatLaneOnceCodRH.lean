/- A hold is read. -/
import Derived.Test.YtgnkkopjkgdieaaGreatLaneOnceCodR
set_option linter.unusedVariables false
set_option linter.unusedSimpArgs false
set_option maxRecDepth 100000
namespace Go.Proofs.YtgnkkopjkgdieaaGreat
open Go Go.V
theorem bnd {α β : Type} {x : Option α} {f g : α → Option β} (h : ∀ a, f a = g a) : x.bind f = x.bind g := by rw [funext h]
theorem bind_some' {α : Type} (x : Option α) : x.bind some = x := by cases x <;> rfl
end Go.Proofs.YtgnkkopjkgdieaaGreat
