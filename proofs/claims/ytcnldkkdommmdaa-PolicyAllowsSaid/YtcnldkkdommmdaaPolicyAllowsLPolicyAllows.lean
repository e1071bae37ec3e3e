/- The plain law: PolicyAllows' model answers true. -/
import Derived.Test.YtcnldkkdommmdaaPolicyAllowsFlt
import Derived.Test.YtcnldkkdommmdaaPolicyAllowsA
import Derived.Test.YtcnldkkdommmdaaPolicyAllowsC
set_option linter.unusedVariables false
set_option linter.unusedSimpArgs false
set_option maxRecDepth 100000
namespace Go.Proofs.Ytcnldkkdommmdaa
open Go Go.V
theorem within_eq {a b c : Nat} (ha : a < 18446744073709551616) (hb : b < 18446744073709551616) (hc : c < 18446744073709551616) :
    number_Within a b c = some (decide (fRank b ≤ fRank a) && decide (fRank a ≤ fRank c)) := by
  unfold number_Within
  rw [rank_eq ha, rank_eq hb, rank_eq hc]
  by_cases h : fRank b ≤ fRank a <;> simp [h]
theorem within_ref {a b c : Nat} (ha : a < 18446744073709551616) (hb : b < 18446744073709551616) (hc : c < 18446744073709551616) :
    ref01_Within a b c = some (decide (fRank b ≤ fRank a) && decide (fRank a ≤ fRank c)) := by
  unfold ref01_Within
  rw [ahead_eq ha hb, ahead_eq hc ha]
  by_cases h : fRank b ≤ fRank a
  · have h2 : ¬ fRank a < fRank b := by omega
    by_cases h3 : fRank a ≤ fRank c
    · have h4 : ¬ fRank c < fRank a := by omega
      simp [h, h2, h3, h4]
    · have h4 : fRank c < fRank a := by omega
      simp [h, h2, h3, h4]
  · have h2 : fRank a < fRank b := by omega
    simp [h, h2]
theorem policyAllows_plain {a0 : api_Rule} {a1 : api_Release} {a2 : Int} (o0 : ok_api_Rule a0) (o1 : ok_api_Release a1) (_ : (Lit.int .u8 a2).wf = true) : law15_PolicyAllows a0 a1 a2 = some true := by
  obtain ⟨_, _, _, hlo, hhi, _, _⟩ := o0
  obtain ⟨_, _, _, hat, _, _, _⟩ := o1
  replace hlo := f64_lt hlo
  replace hhi := f64_lt hhi
  replace hat := f64_lt hat
  have key : ∀ (z85 z83 z84 z86 : Int) (z95 : Nat), z95 < 18446744073709551616 → law15_PolicyAllows_j1 a0 z85 z83 z84 z86 a1 z95 = some true := by
    intro z85 z83 z84 z86 z95 hz
    unfold law15_PolicyAllows_j1 law15_PolicyAllows_j2 policy_Allows
    rw [awake_true, within_eq hz hlo hhi, within_ref hz hlo hhi]
    cases (a0.ID == z85) <;> cases (a0.From == z83) <;> cases (a0.To == z84) <;> cases (a0.Authority == z86) <;> simp
  unfold law15_PolicyAllows law15_PolicyAllows_j0
  cases (Int.tmod a2 2 == 0) <;> cases (Int.tmod a2 3 == 0) <;> simp [key, hat, hlo]
end Go.Proofs.Ytcnldkkdommmdaa
