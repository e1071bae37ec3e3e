/- How the document's answer lays bytes. -/
import Derived.Test.YtbdhhmnncknhhaaLocksBytesCodW
set_option linter.unusedVariables false
set_option linter.unusedSimpArgs false
set_option maxRecDepth 100000
namespace Go.Proofs.Ytbdhhmnncknhhaa
open Go Go.V
theorem frank_eq {x : Nat} (hx : x < 18446744073709551616) : ref01_Rank x = some (fRank x) := by
  unfold ref01_Rank
  rw [fNe_self hx]
  cases h : fNaN x with
  | true => simp [fRank, h]
  | false =>
    rw [cond_false]
    unfold fRank
    rw [h]
    simp only [Bool.false_eq_true, if_false]
    by_cases h2 : 9223372036854775808 ≤ x
    · have e : decide ((Int.ofNat x) ≥ (9223372036854775808:Int)) = true := by simp; omega
      rw [e, cond_true, if_pos h2, wrap_u64] <;> simp <;> omega
    · have e : decide ((Int.ofNat x) ≥ (9223372036854775808:Int)) = false := by simp; omega
      rw [e, cond_false, if_neg h2, wrap_u64] <;> simp <;> omega
theorem and_byte (v : Nat) : bAnd .u64 (v : Int) (255:Int) = ((v % 256 : Nat) : Int) := by
  have h3 : (BitVec.ofNat 64 v &&& BitVec.ofNat 64 255).toNat = v % 256 := by
    rw [BitVec.toNat_and, BitVec.toNat_ofNat, BitVec.toNat_ofNat]
    have e : (255 % 2 ^ 64 : Nat) = 2 ^ 8 - 1 := by decide
    rw [e, Nat.and_two_pow_sub_one_eq_mod]
    have e2 : (2 : Nat) ^ 64 = 256 * 72057594037927936 := by decide
    have e3 : (2 : Nat) ^ 8 = 256 := by decide
    rw [e2, e3, Nat.mod_mul_right_mod]
  have h1 : BitVec.ofInt 64 (255:Int) = BitVec.ofNat 64 255 := by decide
  rw [bAnd64, h1, ofInt_nat, h3, wrap_u64] <;> omega
theorem shr_8 (v : Nat) : iShr .u64 (v : Int) (8:Int) = ((v / 256 : Nat) : Int) := by
  unfold iShr
  have e : min ((8:Int).toNat) IntKind.u64.bits = 8 := by decide
  have e2 : ((2:Int) ^ 8) = ((256 : Nat) : Int) := by decide
  rw [e, e2, Int.fdiv_eq_ediv_of_nonneg _ (Int.natCast_nonneg _), ← Int.natCast_ediv]
theorem fnum_eq (p : List Int) (v n : Nat) (hn : n ≤ 8) (hp : p.length ≤ 1000000000) : ref02_Num p (v : Int) (n : Int) = some (p ++ leB n v) := by
  unfold ref02_Num
  rw [gd_true (room_le (by simp only [List.length_nil]; omega))]
  have h := loop_range (body := ref02_Num_l0 (n : Int)) (fun i => (((v / 256 ^ i : Nat) : Int), p ++ leB i v, (i : Int))) n (p ++ leB n v) ?_ ?_
  · have e : p ++ leB 0 v = p := by simp [leB]
    simpa [e] using h
  · intro i hi
    have e1 : decide ((i : Int) < (n : Int)) = true := by simpa using hi
    have e2 : IntKind.i64.wrap ((i : Int) + 1) = ((i + 1 : Nat) : Int) := by rw [wrap_i64] <;> omega
    have e3 : IntKind.u8.wrap (((v / 256 ^ i % 256 : Nat) : Int)) = ((v / 256 ^ i % 256 : Nat) : Int) := by rw [wrap_u8] <;> omega
    have hr : room (p ++ leB i v) [((v / 256 ^ i % 256 : Nat) : Int)] = true := room_le (by simp [leB_length]; omega)
    simp only [ref02_Num_l0, e1, cond_true, and_byte, e3, gd_true hr, shr_8, e2, leB_succ, List.append_assoc, Nat.div_div_eq_div_mul, Nat.pow_succ]
  · have e1 : decide ((n : Int) < (n : Int)) = false := by simp
    simp only [ref02_Num_l0, e1, cond_false, inrO, Option.map_some]
theorem fnum_int (p : List Int) {v n : Int} {m : Nat} (hv : 0 ≤ v) (hn : n = m) (hm : m ≤ 8) (hp : p.length ≤ 1000000000) : ref02_Num p v n = some (p ++ leB m v.toNat) := by
  obtain ⟨u, rfl⟩ := Int.eq_ofNat_of_zero_le hv
  subst hn
  exact fnum_eq p u m hm hp
end Go.Proofs.Ytbdhhmnncknhhaa
