/- Two floats are the same to the document's answer just if their ranks are. -/
import Derived.Test.YtgnkkopjkgdieaaGreatLaneReadsFlt
set_option linter.unusedVariables false
set_option linter.unusedSimpArgs false
namespace Go.Proofs.YtgnkkopjkgdieaaGreat
open Go Go.V
theorem same_eq {a b : Nat} (ha : a < 18446744073709551616) (hb : b < 18446744073709551616) : ref01_Same a b = some (decide (fRank a = fRank b)) := by
  unfold ref01_Same
  rw [ahead_eq ha hb, ahead_eq hb ha]
  by_cases h1 : fRank a < fRank b
  · have : ¬ fRank a = fRank b := by omega
    simp [h1, this]
  · by_cases h2 : fRank b < fRank a
    · have : ¬ fRank a = fRank b := by omega
      simp [h1, h2, this]
    · have : fRank a = fRank b := by omega
      simp [h1, h2, this]
end Go.Proofs.YtgnkkopjkgdieaaGreat
