/- The store's rank of a float, in the models. -/
import Derived.Test.YtgnkkopjkgdieaaGreatLaneReadsM
import Derived.Test.YtgnkkopjkgdieaaGreatLaneReadsGv
set_option linter.unusedVariables false
set_option linter.unusedSimpArgs false
set_option maxRecDepth 100000
namespace Go.Proofs.YtgnkkopjkgdieaaGreat
open Go Go.V
theorem isNaN_eq {a : Nat} (ha : a < 18446744073709551616) : math_IsNaN a = some (fNaN a) := by simp [math_IsNaN, fNe_self ha]
theorem rank_eq {a : Nat} (ha : a < 18446744073709551616) : number_Rank a = some (fRank a) := by
  unfold number_Rank fRank
  rw [isNaN_eq ha, Option.bind_some]
  cases hn : fNaN a with
  | true => rfl
  | false =>
    simp only [cond_false, Int.ofNat_eq_natCast, shr_63, Bool.false_eq_true, if_false]
    by_cases h : 9223372036854775808 ≤ a
    · have e : a / 9223372036854775808 = 1 := by omega
      rw [e, if_pos h]
      have := xor_all ha
      simp [this]
    · have e : a / 9223372036854775808 = 0 := by omega
      rw [e, if_neg h]
      have := or_top (x := a) (by omega)
      simp [this]
end Go.Proofs.YtgnkkopjkgdieaaGreat
