/- Are two holds, answers, commands one? They are, if they come back as one. -/
import Derived.Test.YtbdhhmnncknhhaaLocksApartCodD
import Derived.Test.YtbdhhmnncknhhaaLocksApartFltS
import Derived.Test.YtbdhhmnncknhhaaLocksApartGv
set_option linter.unusedVariables false
set_option linter.unusedSimpArgs false
set_option maxRecDepth 100000
namespace Go.Proofs.Ytbdhhmnncknhhaa
open Go Go.V
noncomputable def tr (p : Prop) : Bool := @decide p (Classical.propDecidable p)
theorem tr_iff {p : Prop} : tr p = true ↔ p := by unfold tr; exact @decide_eq_true_iff p (Classical.propDecidable p)
theorem tr_t {p : Prop} (h : p) : tr p = true := tr_iff.2 h
theorem tr_f {p : Prop} (h : ¬ p) : tr p = false := by cases e : tr p with | false => rfl | true => exact absurd (tr_iff.1 e) h
theorem tr_eq {p : Prop} {b : Bool} (h : b = true ↔ p) : b = tr p := by
  by_cases hp : p
  · rw [tr_t hp, h.2 hp]
  · rw [tr_f hp]; cases b with | false => rfl | true => exact absurd (h.1 rfl) hp
theorem tr_congr {p q : Prop} (h : p ↔ q) : tr p = tr q := tr_eq (tr_iff.trans h)
/-- One part differs, or all else decides. -/
theorem and_step {p q : Prop} {b : Bool} {X : Option Bool} (hb : b = !(tr p)) (h : p → X = some (tr q)) : (bif b then some false else X) = some (tr (p ∧ q)) := by
  subst hb
  by_cases hp : p
  · rw [tr_t hp, Bool.not_true, cond_false, h hp, tr_congr (q := p ∧ q) ⟨fun hq => ⟨hp, hq⟩, fun hq => hq.2⟩]
  · rw [tr_f hp, Bool.not_false, cond_true, tr_f fun h => hp h.1]
/-! ### Answers -/
/-! ### Holds -/
end Go.Proofs.Ytbdhhmnncknhhaa
