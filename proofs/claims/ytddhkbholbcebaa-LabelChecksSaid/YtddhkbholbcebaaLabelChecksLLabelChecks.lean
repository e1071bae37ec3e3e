/- Any labels: are they a lattice? The plain law. -/
import Derived.Test.YtddhkbholbcebaaLabelChecksLbW
set_option linter.unusedVariables false
set_option linter.unusedSimpArgs false
namespace Go.Proofs.Ytddhkbholbcebaa
open Go Go.V
theorem labelChecks_plain {a0 : List Int} (o0 : a0.length ≤ maxLen ∧ ∀ x ∈ a0, (Lit.int .u64 x).wf = true) : law03_LabelChecks a0 = some true := by
  unfold law03_LabelChecks
  simp only [lb_awake, Option.bind_some, Bool.not_true, cond_false]
  cases h0 : decide ((a0.length : Int) > (20:Int)) with
  | true => rfl
  | false =>
  obtain ⟨e, hw⟩ := up_toNat o0.2
  generalize a0.map Int.toNat = us at e hw
  subst e
  obtain ⟨r, c, h1, h2, h3⟩ := any_told hw
  simp only [cond_false, h1, h2, Option.bind_some]
  rcases h3 with ⟨hc, rfl⟩ | ⟨rfl, rfl, _, _, _, _, ht⟩
  · have e1 : (c == (0:Int)) = false := by simpa using hc
    have e2 : (c != (0:Int)) = true := by simpa using hc
    simp [e1, e2]
  · simp only [ht, Option.bind_some]; rfl
end Go.Proofs.Ytddhkbholbcebaa
