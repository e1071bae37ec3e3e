/- The tape's floats. -/
import Derived.Test.YtgnkkopjkgdieaaGreatLaneReadsTape
set_option linter.unusedVariables false
set_option linter.unusedSimpArgs false
set_option maxRecDepth 100000
namespace Go.Proofs.YtgnkkopjkgdieaaGreat
open Go Go.V
theorem small_good {v : Int} (h0 : 0 ≤ v) (h1 : v < 8) : ∃ f, ref12_small v = some f ∧ f < 18446744073709551616 ∧ fNaN f = false := by
  have : v = 0 ∨ v = 1 ∨ v = 2 ∨ v = 3 ∨ v = 4 ∨ v = 5 ∨ v = 6 ∨ v = 7 := by omega
  rcases this with rfl | rfl | rfl | rfl | rfl | rfl | rfl | rfl <;> exact ⟨_, rfl, by decide, by decide⟩
theorem float_good {t : ref12_Tape} (h : tapeOK t) : ∃ f t', ref12_Tape_Float t = some (f, t') ∧ (f < 18446744073709551616 ∧ fNaN f = false) ∧ tapeOK t' := by
  obtain ⟨v, t', h1, h2, h3, h4, h5⟩ := next_ok h (n := 8) (by decide) (by decide)
  have e : IntKind.u8.wrap v = v := by rw [wrap_u8] <;> omega
  obtain ⟨f, g1, g2⟩ := small_good h2 h3
  exact ⟨f, t', by simp [ref12_Tape_Float, h1, e, g1], g2, h4⟩
end Go.Proofs.YtgnkkopjkgdieaaGreat
