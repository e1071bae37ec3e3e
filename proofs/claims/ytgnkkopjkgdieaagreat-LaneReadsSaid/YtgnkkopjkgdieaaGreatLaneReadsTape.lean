/- The tape that draws: each number is one of those that may come. -/
import Derived.Test.YtgnkkopjkgdieaaGreatLaneReadsM
import Derived.Test.YtgnkkopjkgdieaaGreatLaneReadsGv
set_option linter.unusedVariables false
set_option linter.unusedSimpArgs false
set_option maxRecDepth 100000
namespace Go.Proofs.YtgnkkopjkgdieaaGreat
open Go Go.V
def tapeOK (t : ref12_Tape) : Prop := 0 ≤ t.I ∧ t.L.length ≤ 1000000 ∧ ∀ x ∈ t.L, 0 ≤ x ∧ x < 256
theorem next_ok {t : ref12_Tape} {n : Int} (h : tapeOK t) (hn : 0 < n) (hn2 : n ≤ 1000000000) : ∃ v t', ref12_Tape_Next t n = some (v, t') ∧ 0 ≤ v ∧ v < n ∧ tapeOK t' ∧ t'.L = t.L := by
  obtain ⟨L, I⟩ := t
  obtain ⟨h0, h1, h2⟩ := h
  simp only at h0 h1 h2
  obtain ⟨i, rfl⟩ := Int.eq_ofNat_of_zero_le h0
  unfold ref12_Tape_Next
  simp only
  cases hc : decide ((i : Int) ≥ (L.length : Int)) with
  | true => exact ⟨0, _, rfl, Int.le_refl _, hn, ⟨h0, h1, h2⟩, rfl⟩
  | false =>
    have hlt : (i : Int) < (L.length : Int) := by simpa using hc
    have e1 : IntKind.i64.wrap ((i : Int) + 1) = i + 1 := by rw [wrap_i64] <;> omega
    have e2 : IntKind.i64.wrap ((i : Int) + 1 - 1) = i := by rw [wrap_i64] <;> omega
    have hi2 : i < L.length := by omega
    have hx := h2 L[i] (List.getElem_mem hi2)
    have e3 : IntKind.i64.wrap L[i] = L[i] := by rw [wrap_i64] <;> omega
    have e4 : (!(n == (0:Int))) = true := by simp; omega
    have e5 : Int.tmod L[i] n = L[i] % n := Int.tmod_eq_emod_of_nonneg hx.1
    simp only [cond_false, e1, e2, geto_lt hi2, Option.bind_some, e3, gd_true e4, e5]
    refine ⟨_, _, rfl, Int.emod_nonneg _ (by omega), Int.emod_lt_of_pos _ hn, ⟨?_, h1, h2⟩, rfl⟩
    show (0:Int) ≤ (i : Int) + 1
    omega
end Go.Proofs.YtgnkkopjkgdieaaGreat
