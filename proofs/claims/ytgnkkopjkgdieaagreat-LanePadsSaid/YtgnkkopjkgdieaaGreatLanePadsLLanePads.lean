/- A write whose value has just so many bytes: the plain law. -/
import Derived.Test.YtgnkkopjkgdieaaGreatLanePadsLnA
import Derived.Test.YtgnkkopjkgdieaaGreatLanePadsA
set_option linter.unusedVariables false
set_option linter.unusedSimpArgs false
set_option maxRecDepth 100000
namespace Go.Proofs.YtgnkkopjkgdieaaGreat
open Go Go.V
theorem lanePads_plain {a0 : Nat} {a1 : Bool} {a2 : List Int} {a3 : Int} (o0 : (Lit.float .f64 a0).wf = true) (_ : True) (o2 : a2.length ≤ maxLen ∧ ∀ x ∈ a2, (Lit.int .u8 x).wf = true) (o3 : (Lit.int .i64 a3).wf = true) : law16_LanePads a0 a1 a2 a3 = some true := by
  unfold law16_LanePads
  simp only [ln_awake, Option.bind_some, Bool.not_true, cond_false]
  cases h0 : decide ((a2.length : Int) > (300:Int)) with
  | true => rfl
  | false =>
  have hn : Int.tmod a3 300 ≤ 1000000 := by
    have := Int.tmod_lt_of_pos a3 (show (0:Int) < 300 by decide)
    omega
  generalize Int.tmod a3 300 = n at hn ⊢
  simp only [cond_false, pad_eq _ hn, refpad_eq _ hn, Option.bind_some]
  rw [same_write (f64_lt o0) (f64_lt o0) rfl rfl rfl]
  simp only [Option.bind_some, cond_true, law16_LanePads_j0]
  cases a1 with
  | true => rfl
  | false =>
    simp only [cond_false, Bool.false_eq_true, if_false]
    by_cases h : n < 0
    · rw [decide_eq_true h]; rfl
    · rw [decide_eq_false h]
      have : ((((padV n.toNat a2).length : Nat) : Int) == n) = true := by simp [padV]; omega
      simp only [cond_false, this, Option.bind_some]
      rfl
end Go.Proofs.YtgnkkopjkgdieaaGreat
