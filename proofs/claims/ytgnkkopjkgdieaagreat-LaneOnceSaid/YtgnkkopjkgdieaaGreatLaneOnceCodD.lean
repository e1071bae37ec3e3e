/- A command's bytes, read back; and what any bytes are read as. -/
import Derived.Test.YtgnkkopjkgdieaaGreatLaneOnceCodRC
set_option linter.unusedVariables false
set_option linter.unusedSimpArgs false
set_option maxRecDepth 100000
namespace Go.Proofs.YtgnkkopjkgdieaaGreat
open Go Go.V
/-! ### What comes back has the same bytes -/
/-! ### Commands -/
/-! ### Lengths -/
theorem flat_len {β : Type} {l : List β} {e : β → List Int} {m : Nat} (h : ∀ x ∈ l, (e x).length ≤ m) : (l.map e).flatten.length ≤ l.length * m := by
  induction l with
  | nil => simp
  | cons x l ih =>
    have h1 := h x (by simp)
    have h2 := ih fun y hy => h y (by simp [hy])
    simp only [List.map_cons, List.flatten_cons, List.length_append, List.length_cons, Nat.succ_mul]
    omega
theorem rkB_len (x : Nat) : (rkB x).length = 8 := leB_length 8 _
/-! ### Reading back -/
end Go.Proofs.YtgnkkopjkgdieaaGreat
