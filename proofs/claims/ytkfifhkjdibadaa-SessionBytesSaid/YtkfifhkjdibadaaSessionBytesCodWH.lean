/- A hold's bytes. -/
import Derived.Test.YtkfifhkjdibadaaSessionBytesCodW
set_option linter.unusedVariables false
set_option linter.unusedSimpArgs false
set_option maxRecDepth 100000
namespace Go.Proofs.Ytkfifhkjdibadaa
open Go Go.V
def isF (x : Nat) : Prop := x < 18446744073709551616
def rkB (x : Nat) : List Int := leB 8 (fRank x).toNat
theorem fRank_nn {x : Nat} (h : isF x) : 0 ≤ fRank x := by
  unfold isF at h
  unfold fRank
  split
  · omega
  · split <;> omega
theorem WR.rank {x : Nat} (h : isF x) : WR (fun w => (number_Rank x).bind fun t => octet_Writer_Num w t (8:Int)) (rkB x) := by
  have e := rank_eq h
  simp only [e, Option.bind_some]
  exact WR.n8 (fRank_nn h)
end Go.Proofs.Ytkfifhkjdibadaa
