/- The writer of numbers. -/
import Derived.Test.YtbdhhmnncknhhaaLocksKeepsM
import Derived.Test.YtbdhhmnncknhhaaLocksKeepsGv
set_option linter.unusedVariables false
set_option linter.unusedSimpArgs false
set_option maxRecDepth 100000
namespace Go.Proofs.Ytbdhhmnncknhhaa
open Go Go.V
theorem wnum_eq (p : List Int) (v n : Nat) (hn : n ≤ 8) (hp : p.length ≤ 1000000000) : octet_Writer_Num { p := p } (v : Int) (n : Int) = some { p := p ++ leB n v } := by
  unfold octet_Writer_Num
  have h := loop_range (body := octet_Writer_Num_l0 (n : Int) (v : Int)) (fun i => (({ p := p ++ leB i v } : octet_Writer), (i : Int))) n { p := p ++ leB n v } ?_ ?_
  · have e : p ++ leB 0 v = p := by simp [leB]
    simpa [e] using h
  · intro i hi
    have e1 : decide ((i : Int) < (n : Int)) = true := by simpa using hi
    have e2 : IntKind.i64.wrap ((i : Int) + 1) = ((i + 1 : Nat) : Int) := by rw [wrap_i64] <;> omega
    have e3 : IntKind.i64.wrap ((8:Int) * (i : Int)) = ((8 * i : Nat) : Int) := by rw [wrap_i64] <;> omega
    have e4 : decide ((0:Int) ≤ ((8 * i : Nat) : Int)) = true := decide_eq_true (Int.natCast_nonneg _)
    have hr : room (p ++ leB i v) [((v / 256 ^ i % 256 : Nat) : Int)] = true := room_le (by simp [leB_length]; omega)
    simp only [octet_Writer_Num_l0, e1, cond_true, e2, e3, gd_true e4, shr_byte v i (by omega), octet_Writer_lay, gd_true hr, Option.bind_some, leB_succ, List.append_assoc]
  · have e1 : decide ((n : Int) < (n : Int)) = false := by simp
    simp only [octet_Writer_Num_l0, e1, cond_false, inrO, Option.map_some]
theorem wnum_int (p : List Int) {v n : Int} {m : Nat} (hv : 0 ≤ v) (hn : n = m) (hm : m ≤ 8) (hp : p.length ≤ 1000000000) : octet_Writer_Num { p := p } v n = some { p := p ++ leB m v.toNat } := by
  obtain ⟨u, rfl⟩ := Int.eq_ofNat_of_zero_le hv
  subst hn
  exact wnum_eq p u m hm hp
end Go.Proofs.Ytbdhhmnncknhhaa
