/- Any rule: may it be? The plain law. -/
import Derived.Test.YtkjkbfaaigmmcaaConfigRulesCgA
set_option linter.unusedVariables false
set_option linter.unusedSimpArgs false
set_option maxRecDepth 100000
namespace Go.Proofs.Ytkjkbfaaigmmcaa
open Go Go.V
theorem configRules_plain {a0 : Int} {a1 : api_Rule} (o0 : (Lit.int .u8 a0).wf = true) (o1 : ok_api_Rule a1) : law04_ConfigRules a0 a1 = some true := by
  obtain ⟨us, n, cuts, h1, hw, l1, l2, hnew, hn, hcuts⟩ := small_eq (lit_u8.1 o0)
  have hf : ∀ x ∈ cuts, isF x := fun x hx => by
    rcases hcuts with rfl | rfl
    · cases hx
    · rw [List.mem_singleton.1 hx]; exact isF0
  have hl : cuts.length ≤ 7 := by rcases hcuts with rfl | rfl <;> simp
  obtain ⟨b, g1, g2⟩ := rising_n (show cuts.length ≤ 1000 by omega) hf
  have hb : b = true := g2.2 (by
    rcases hcuts with rfl | rfl
    · exact List.Pairwise.nil
    · exact List.pairwise_singleton _ _)
  subst hb
  have hp := new_small hn hl hnew g1
  rw [cond_true] at hp
  obtain ⟨_, _, _, f1, f2, _⟩ := o1
  have hlo : isF a1.Lo := f64_lt f1
  have hhi : isF a1.Hi := f64_lt f2
  simp only [law04_ConfigRules, h1, hp, Option.bind_some]
  have e : ∀ x : Int, decide (x < ((smC us n cuts).Up.length : Int)) = decide (x < (us.length : Int)) := fun x => by rw [show (smC us n cuts).Up = up us from rfl, up_len]
  simp only [e]
  have hr : config_Plan_Rule (some (plS us n cuts)) a1 = (bif (inR us a1.From) then (bif (inR us a1.To) then (bif (a1.From != a1.To) then (bif (!decide (fRank a1.Hi < fRank a1.Lo)) then (bif (decide (a1.Quota ≥ (0:Int))) then (some (decide (a1.Quota ≤ (65536:Int)))) else (some false)) else (some false)) else (some false)) else (some false)) else (some false)) := by
    have hpl : (plS us n cuts).L = some (latF us) := rfl
    simp only [config_Plan_Rule, hpl, is_eq, Option.bind_some, less_eq hhi hlo]
  have hw2 : (bif (decide (a1.From ≥ (0:Int))) then (bif (decide (a1.From < (us.length : Int))) then (bif (decide (a1.To ≥ (0:Int))) then (bif (decide (a1.To < (us.length : Int))) then (bif (a1.From != a1.To) then ((ref01_Ahead a1.Hi a1.Lo).bind fun t107 => (bif (!t107) then (bif (decide (a1.Quota ≥ (0:Int))) then (some (decide (a1.Quota ≤ (65536:Int)))) else (some false)) else (some false))) else (some false)) else (some false)) else (some false)) else (some false)) else (some false)) = config_Plan_Rule (some (plS us n cuts)) a1 := by
    rw [hr, ahead_eq hhi hlo]
    unfold inR
    cases decide (a1.From ≥ (0:Int)) <;> cases decide (a1.From < (us.length : Int)) <;> cases decide (a1.To ≥ (0:Int)) <;> cases decide (a1.To < (us.length : Int)) <;> rfl
  rw [hw2]
  obtain ⟨x, hx⟩ : ∃ x, config_Plan_Rule (some (plS us n cuts)) a1 = some x := by
    rw [hr]
    cases inR us a1.From <;> cases inR us a1.To <;> cases (a1.From != a1.To) <;> cases decide (fRank a1.Hi < fRank a1.Lo) <;> cases decide (a1.Quota ≥ (0:Int)) <;> exact ⟨_, rfl⟩
  simp only [hx, Option.bind_some, law04_ConfigRules_j0, cg_awake, cond_true, BEq.rfl]
end Go.Proofs.Ytkjkbfaaigmmcaa
