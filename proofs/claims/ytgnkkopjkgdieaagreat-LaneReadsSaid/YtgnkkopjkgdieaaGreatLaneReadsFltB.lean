/- Back from a rank. -/
import Derived.Test.YtgnkkopjkgdieaaGreatLaneReadsFltR
set_option linter.unusedVariables false
set_option linter.unusedSimpArgs false
set_option maxRecDepth 100000
namespace Go.Proofs.YtgnkkopjkgdieaaGreat
open Go Go.V
theorem back_eq {v : Nat} (hv : v < 18446744073709551616) : number_Back (v : Int) = some (if 9223372036854775808 ≤ v then v - 9223372036854775808 else 18446744073709551615 - v) := by
  unfold number_Back
  rw [shr_63, andNot_top hv, xor_all hv]
  by_cases h : 9223372036854775808 ≤ v
  · have e : v / 9223372036854775808 = 1 := by omega
    rw [e, if_pos h]
    have e2 : v % 9223372036854775808 = v - 9223372036854775808 := by omega
    rw [show (((1:Nat):Int) == 1) = true from rfl, cond_true, Int.toNat_natCast, e2]
  · have e : v / 9223372036854775808 = 0 := by omega
    rw [e, if_neg h]
    have e2 : ((18446744073709551615:Int) - (v:Int)).toNat = 18446744073709551615 - v := by omega
    rw [show (((0:Nat):Int) == 1) = false from rfl, cond_false, e2]
theorem fRank_nat {x : Nat} (hx : x < 18446744073709551616) : 0 ≤ fRank x ∧ fRank x < 18446744073709551616 := by
  unfold fRank
  split
  · omega
  · split <;> omega
theorem back_rank {x : Nat} (hx : x < 18446744073709551616) (hn : fNaN x = false) : number_Back (fRank x) = some x := by
  obtain ⟨h0, h1⟩ := fRank_nat hx
  obtain ⟨u, hu⟩ := Int.eq_ofNat_of_zero_le h0
  rw [hu, back_eq (by omega)]
  congr 1
  unfold fRank at hu
  rw [hn] at hu
  simp only [Bool.false_eq_true, if_false] at hu
  split at hu <;> split <;> omega
end Go.Proofs.YtgnkkopjkgdieaaGreat
