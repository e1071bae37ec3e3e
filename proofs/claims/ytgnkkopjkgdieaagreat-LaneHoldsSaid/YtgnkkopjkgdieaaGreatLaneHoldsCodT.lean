/- What the tape draws can be written, and comes back as it was. -/
import Derived.Test.YtgnkkopjkgdieaaGreatLaneHoldsCodD
import Derived.Test.YtgnkkopjkgdieaaGreatLaneHoldsTapeF
set_option linter.unusedVariables false
set_option linter.unusedSimpArgs false
set_option maxRecDepth 100000
namespace Go.Proofs.YtgnkkopjkgdieaaGreat
open Go Go.V
/-- f draws something of the tape. -/
def TP {α : Type} (f : ref12_Tape → Option (α × ref12_Tape)) (P : α → Prop) : Prop := ∀ t, tapeOK t → ∃ x t', f t = some (x, t') ∧ P x ∧ tapeOK t'
theorem TP.ret {α : Type} {P : α → Prop} {x : α} (h : P x) : TP (fun r => some (x, r)) P := fun r hr => ⟨x, r, rfl, h, hr⟩
theorem TP.bind {α β : Type} {f : ref12_Tape → Option (α × ref12_Tape)} {g : α × ref12_Tape → Option (β × ref12_Tape)} {P : α → Prop} {Q : β → Prop} (hf : TP f P) (hg : ∀ x, P x → TP (fun r => g (x, r)) Q) : TP (fun r => (f r).bind g) Q := fun r hr => by
  obtain ⟨x, r', h1, h2, h3⟩ := hf r hr
  obtain ⟨y, r2, k1, k2, k3⟩ := hg x h2 r' h3
  exact ⟨y, r2, by show (f r).bind g = _; rw [h1, Option.bind_some]; exact k1, k2, k3⟩
theorem TP.of {α : Type} {f g : ref12_Tape → Option (α × ref12_Tape)} {P : α → Prop} (h : ∀ r, f r = g r) (hg : TP g P) : TP f P := fun r hr => by rw [h]; exact hg r hr
section
variable {α S R : Type} {body : S → Option (S ⊕ R)} (st : ref12_Tape → List α → Int → S) (out : ref12_Tape → List α → R) {F : Int → ref12_Tape → Option (α × ref12_Tape)}
end
/-! ### Values -/
/-! ### Holds -/
/-! ### Writes, answers, rules -/
end Go.Proofs.YtgnkkopjkgdieaaGreat
