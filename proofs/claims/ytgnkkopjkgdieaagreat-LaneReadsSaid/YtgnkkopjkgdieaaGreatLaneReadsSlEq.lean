/- Are two rows of bytes the same? -/
import Derived.Test.YtgnkkopjkgdieaaGreatLaneReadsM
import Derived.Test.YtgnkkopjkgdieaaGreatLaneReadsGv
set_option linter.unusedVariables false
set_option linter.unusedSimpArgs false
set_option maxRecDepth 100000
namespace Go.Proofs.YtgnkkopjkgdieaaGreat
open Go Go.V
theorem slEq_eq (a b : List Int) (hl : a.length ≤ 1000000000) : slices_Equal_byte_byte a b = some (decide (a = b)) := by
  unfold slices_Equal_byte_byte
  cases h : (((a).length : Int) != ((b).length : Int)) with
  | true =>
    have : ¬ a = b := by rintro rfl; simp at h
    simp [this]
  | false =>
    have hlen : a.length = b.length := by simp at h; omega
    rw [cond_false]
    obtain ⟨r, e1, e2⟩ : ∃ r, loopO (slices_Equal_byte_byte_l0 a b) (0:Int) = some r ∧ r = decide (a = b) := by
      refine loop_inv (fun i : Int => 0 ≤ i ∧ i ≤ a.length ∧ a.take i.toNat = b.take i.toNat) (fun i => ((a.length : Int) - i).toNat) (fun r => r = decide (a = b)) ?_ ⟨Int.le_refl 0, by omega, by simp⟩
      rintro i ⟨h0, h1, h2⟩
      obtain ⟨n, rfl⟩ := Int.eq_ofNat_of_zero_le h0
      unfold slices_Equal_byte_byte_l0
      cases hi : decide ((n : Int) < (a.length : Int)) with
      | false =>
        have hn : n = a.length := by simp at hi; omega
        right
        refine ⟨true, rfl, ?_⟩
        subst hn
        rw [Int.toNat_natCast, List.take_length, hlen, List.take_length] at h2
        simp [h2]
      | true =>
        have hn : n < a.length := by simpa using hi
        have hn2 : n < b.length := by omega
        have hw : IntKind.i64.wrap ((n : Int) + 1) = ((n + 1 : Nat) : Int) := by rw [wrap_i64] <;> omega
        simp only [cond_true, geto_lt hn, geto_lt hn2, Option.bind_some, hw]
        by_cases he : a[n] = b[n]
        · left
          refine ⟨((n + 1 : Nat) : Int), by simp [he], ⟨by omega, by omega, ?_⟩, by omega⟩
          rw [Int.toNat_natCast] at h2
          rw [Int.toNat_natCast, List.take_succ_eq_append_getElem hn, List.take_succ_eq_append_getElem hn2, h2, he]
        · right
          have hne : ¬ a = b := by
            intro e
            subst e
            exact he rfl
          have hb : (a[n] != b[n]) = true := by simpa using he
          exact ⟨false, by rw [hb]; rfl, by simp [hne]⟩
    rw [e1, e2]
end Go.Proofs.YtgnkkopjkgdieaaGreat
