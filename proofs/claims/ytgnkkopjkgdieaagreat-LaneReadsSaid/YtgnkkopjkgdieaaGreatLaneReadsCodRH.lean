/- A hold is read. -/
import Derived.Test.YtgnkkopjkgdieaaGreatLaneReadsCodR
set_option linter.unusedVariables false
set_option linter.unusedSimpArgs false
set_option maxRecDepth 100000
namespace Go.Proofs.YtgnkkopjkgdieaaGreat
open Go Go.V
theorem bnd {α β : Type} {x : Option α} {f g : α → Option β} (h : ∀ a, f a = g a) : x.bind f = x.bind g := by rw [funext h]
def cSpan (x : Nat × Nat) : Nat × Nat := (cf x.1, cf x.2)
theorem bind_some' {α : Type} (x : Option α) : x.bind some = x := by cases x <;> rfl
/-- What is written so that it is read. -/
def holdG (h : api_Hold) : Prop := isU 8 h.ID.Session ∧ isU 8 h.ID.Seq ∧ isU 8 h.Epoch ∧ (∀ x ∈ h.Gets, isF x) ∧ (∀ x ∈ h.Scans, isF x.1 ∧ isF x.2) ∧ (∀ x ∈ h.Puts, isF x) ∧ h.Gets.length ≤ 32 ∧ h.Scans.length ≤ 32 ∧ h.Puts.length ≤ 32 ∧ h.Data.length ≤ 257 ∧ U8s h.Data
def cHold (h : api_Hold) : api_Hold := { ID := { Session := h.ID.Session, Seq := h.ID.Seq }, Epoch := h.Epoch, Gets := h.Gets.map cf, Scans := h.Scans.map cSpan, Puts := h.Puts.map cf, Data := h.Data }
end Go.Proofs.YtgnkkopjkgdieaaGreat
