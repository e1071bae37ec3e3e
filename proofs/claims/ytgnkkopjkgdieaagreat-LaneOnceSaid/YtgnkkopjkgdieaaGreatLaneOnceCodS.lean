/- Are two holds, answers, commands one? They are, if they come back as one. -/
import Derived.Test.YtgnkkopjkgdieaaGreatLaneOnceCodD
import Derived.Test.YtgnkkopjkgdieaaGreatLaneOnceFltS
import Derived.Test.YtgnkkopjkgdieaaGreatLaneOnceGv
set_option linter.unusedVariables false
set_option linter.unusedSimpArgs false
set_option maxRecDepth 100000
namespace Go.Proofs.YtgnkkopjkgdieaaGreat
open Go Go.V
noncomputable def tr (p : Prop) : Bool := @decide p (Classical.propDecidable p)
theorem tr_iff {p : Prop} : tr p = true ↔ p := by unfold tr; exact @decide_eq_true_iff p (Classical.propDecidable p)
theorem tr_t {p : Prop} (h : p) : tr p = true := tr_iff.2 h
theorem tr_f {p : Prop} (h : ¬ p) : tr p = false := by cases e : tr p with | false => rfl | true => exact absurd (tr_iff.1 e) h
theorem tr_eq {p : Prop} {b : Bool} (h : b = true ↔ p) : b = tr p := by
  by_cases hp : p
  · rw [tr_t hp, h.2 hp]
  · rw [tr_f hp]; cases b with | false => rfl | true => exact absurd (h.1 rfl) hp
theorem tr_congr {p q : Prop} (h : p ↔ q) : tr p = tr q := tr_eq (tr_iff.trans h)
theorem same_cf {a b : Nat} (ha : isF a) (hb : isF b) : ref01_Same a b = some (tr (cf a = cf b)) := by
  rw [same_eq ha hb, tr_congr (cf_eq ha hb)]
  exact congrArg _ (tr_eq (by simp))
/-! ### Answers -/
/-! ### Holds -/
end Go.Proofs.YtgnkkopjkgdieaaGreat
