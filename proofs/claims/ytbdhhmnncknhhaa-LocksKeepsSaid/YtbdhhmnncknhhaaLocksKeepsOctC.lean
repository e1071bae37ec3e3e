/- The reader's counts. -/
import Derived.Test.YtbdhhmnncknhhaaLocksKeepsOctR
set_option linter.unusedVariables false
set_option linter.unusedSimpArgs false
set_option maxRecDepth 100000
namespace Go.Proofs.Ytbdhhmnncknhhaa
open Go Go.V
theorem count_ok {r : octet_Reader} (h : rdOK r) {a : Int} (h0 : 0 ≤ a) (h1 : a ≤ 1000000000) : ∃ c r', octet_Reader_Count r a = some (c, r') ∧ 0 ≤ c ∧ c ≤ a ∧ rdOK r' := by
  obtain ⟨v, r', a1, b1, c1, d1, _⟩ := rnum_ok h 4 (by decide)
  have n4 : ((4 : Nat) : Int) = 4 := rfl
  rw [n4] at a1
  have e0 : decide (a < (0:Int)) = false := by simp; omega
  have e1 : IntKind.u64.wrap a = a := by rw [wrap_u64] <;> omega
  unfold octet_Reader_Count
  simp only [a1, Option.bind_some, e0, cond_false, e1, octet_Reader_spoil]
  cases hv : decide (v > a) with
  | true => exact ⟨0, _, rfl, Int.le_refl _, h0, d1⟩
  | false =>
    have hv' : v ≤ a := by simpa using hv
    have e2 : IntKind.i64.wrap v = v := by rw [wrap_i64] <;> omega
    exact ⟨v, r', by rw [cond_false, e2], b1, hv', d1⟩
theorem count_leB (v : Nat) (q : List Int) {a : Int} (hv : (v : Int) ≤ a) (h1 : a ≤ 1000000000) (hq : ∀ x ∈ q, isU8 x) : octet_Reader_Count { p := leB 4 v ++ q, bad := false } a = some ((v : Int), { p := q, bad := false }) := by
  have h := rnum_leB 4 v q (by decide) (by have : (256:Nat) ^ 4 = 4294967296 := by decide
                                           omega) hq
  have n4 : ((4 : Nat) : Int) = 4 := rfl
  rw [n4] at h
  have e0 : decide (a < (0:Int)) = false := by simp; omega
  have e1 : IntKind.u64.wrap a = a := by rw [wrap_u64] <;> omega
  have e2 : IntKind.i64.wrap (v : Int) = v := by rw [wrap_i64] <;> omega
  have e3 : decide ((v : Int) > a) = false := by simp; omega
  simp only [octet_Reader_Count, h, Option.bind_some, e0, cond_false, e1, e3, e2]
end Go.Proofs.Ytbdhhmnncknhhaa
