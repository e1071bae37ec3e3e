/- Floats in the models: the rank, and the order of the document's answer, are one. -/
import Derived.Test.YtgnkkopjkgdieaaGreatLaneReadsM
import Derived.Test.YtgnkkopjkgdieaaGreatLaneReadsGv
set_option linter.unusedVariables false
set_option linter.unusedSimpArgs false
set_option maxRecDepth 100000
namespace Go.Proofs.YtgnkkopjkgdieaaGreat
open Go Go.V
theorem signbit_eq {a : Nat} (ha : a < 18446744073709551616) : math_Signbit a = some (fNeg a) := by
  simp only [math_Signbit, wrap_i64_eq, fNeg, Option.some.injEq, decide_eq_decide, Int.ofNat_eq_natCast]
  omega
theorem rank_key {a : Nat} (ha : a < 18446744073709551616) (na : fNaN a = false) : (fNeg a = true ∧ fRank a = 9223372036854775807 + fKey a ∧ fKey a ≤ 0) ∨ (fNeg a = false ∧ fRank a = 9223372036854775808 + fKey a ∧ 0 ≤ fKey a) := by
  unfold fRank fKey fNeg fRung
  rw [na]
  by_cases h : 9223372036854775808 ≤ a
  · left; simp only [h, if_true, decide_true, Bool.false_eq_true, if_false, true_and]; omega
  · right; simp only [h, if_false, decide_false, Bool.false_eq_true, true_and]; omega
theorem ahead_eq {a b : Nat} (ha : a < 18446744073709551616) (hb : b < 18446744073709551616) : ref01_Ahead a b = some (decide (fRank a < fRank b)) := by
  unfold ref01_Ahead ref01_Ahead_j0 joinO inrO
  rw [fNe_self ha, fNe_self hb, fEq_eq ha (by decide), fEq_eq hb (by decide), fLt_eq ha hb, signbit_eq ha, signbit_eq hb]
  have k0 : fKey 0 = 0 := by decide
  have n0 : fNaN 0 = false := by decide
  rw [k0, n0]
  cases na : fNaN a with
  | true =>
    have : fRank a = 18446744073709551615 := by simp [fRank, na]
    have h2 : ¬ (fRank a < fRank b) := by
      rw [this]; unfold fRank; split
      · omega
      · split <;> omega
    simp [h2]
  | false =>
    cases nb : fNaN b with
    | true =>
      have h1 : fRank b = 18446744073709551615 := by simp [fRank, nb]
      have h2 : fRank a < fRank b := by
        have : fRung a ≤ 9218868437227405312 := by simpa [fNaN] using na
        rw [h1]; unfold fRank; rw [na]; unfold fRung at this
        simp only [Bool.false_eq_true, if_false]
        split <;> omega
      simp [h2]
    | false =>
      have A := rank_key ha na
      have B := rank_key hb nb
      simp only [Bool.not_false, Bool.true_and, cond_false, Option.bind_some]
      by_cases z1 : fKey a = 0 <;> by_cases z2 : fKey b = 0 <;> rcases A with ⟨s1, r1, k1⟩ | ⟨s1, r1, k1⟩ <;> rcases B with ⟨s2, r2, k2⟩ | ⟨s2, r2, k2⟩ <;> rw [r1, r2] <;>
        simp only [z1, z2, s1, s2, decide_true, decide_false, cond_true, cond_false, Option.bind_some, Option.map_some, Bool.not_true, Bool.not_false, Option.some.injEq, Bool.false_eq, Bool.true_eq, decide_eq_false_iff_not, decide_eq_true_eq, decide_eq_decide] <;> omega
end Go.Proofs.YtgnkkopjkgdieaaGreat
