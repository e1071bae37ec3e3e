/- Any config: is it right? The plain law. -/
import Derived.Test.YtkjkbfaaigmmcaaConfigChecksCgA
set_option linter.unusedVariables false
set_option linter.unusedSimpArgs false
set_option maxRecDepth 100000
namespace Go.Proofs.Ytkjkbfaaigmmcaa
open Go Go.V
theorem configChecks_plain {a0 : api_Config} (o0 : ok_api_Config a0) : law04_ConfigChecks a0 = some true := by
  unfold law04_ConfigChecks
  simp only [cg_awake, Option.bind_some, Bool.not_true, cond_false]
  cases h0 : decide ((a0.Up.length : Int) > (20:Int)) with
  | true => rfl
  | false =>
  cases h1 : decide ((a0.Cuts.length : Int) > (100:Int)) with
  | true => rfl
  | false =>
  have h1 := of_decide_eq_false h1
  obtain ⟨e, hw⟩ := up_toNat o0.1.2
  obtain ⟨r, n, g1, g2, g3, g4⟩ := chk_law a0 e.symm hw (by omega) (fun x hx => f64_lt (o0.2.2.1.2 x hx))
  simp only [cond_false, g1, g2, g3, Option.bind_some, BEq.rfl, cond_true, g4]
end Go.Proofs.Ytkjkbfaaigmmcaa
