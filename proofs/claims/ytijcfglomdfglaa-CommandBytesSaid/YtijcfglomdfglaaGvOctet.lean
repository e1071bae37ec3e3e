/- Numbers as bytes, the least one first. Plain. -/
import Derived.Test.YtijcfglomdfglaaGvPlain
set_option linter.unusedVariables false
set_option linter.unusedSimpArgs false
namespace Go.V
open Go

def isU8 (x : Int) : Prop := 0 ≤ x ∧ x < 256
/-- A number's first n bytes. -/
def leB (n v : Nat) : List Int := (List.range n).map fun i => ((v / 256 ^ i % 256 : Nat) : Int)
/-- What bytes say. -/
def valB : List Int → Nat
  | [] => 0
  | x :: xs => x.toNat + 256 * valB xs
theorem leB_length (n v : Nat) : (leB n v).length = n := by simp [leB]
theorem leB_succ (n v : Nat) : leB (n + 1) v = leB n v ++ [((v / 256 ^ n % 256 : Nat) : Int)] := by simp [leB, List.range_succ]
theorem leB_u8 {n v : Nat} : ∀ x ∈ leB n v, isU8 x := by
  intro x hx
  simp only [leB, List.mem_map] at hx
  obtain ⟨i, _, rfl⟩ := hx
  have : v / 256 ^ i % 256 < 256 := Nat.mod_lt _ (by decide)
  exact ⟨by omega, by omega⟩
theorem valB_snoc (xs : List Int) (x : Int) : valB (xs ++ [x]) = valB xs + 256 ^ xs.length * x.toNat := by
  induction xs with
  | nil => simp [valB]
  | cons y ys ih =>
    simp only [List.cons_append, valB, ih, List.length_cons, Nat.pow_succ]
    rw [Nat.mul_add, ← Nat.mul_assoc, Nat.mul_comm 256 (256 ^ ys.length)]
    omega
theorem valB_lt {xs : List Int} (h : ∀ x ∈ xs, isU8 x) : valB xs < 256 ^ xs.length := by
  induction xs with
  | nil => simp [valB]
  | cons y ys ih =>
    have h1 := ih fun x hx => h x (by simp [hx])
    have h2 := h y (by simp)
    simp only [valB, List.length_cons, Nat.pow_succ]
    obtain ⟨h3, h4⟩ := h2
    omega
theorem valB_leB (n v : Nat) : valB (leB n v) = v % 256 ^ n := by
  induction n with
  | zero => simp [leB, valB, Nat.mod_one]
  | succ n ih =>
    rw [leB_succ, valB_snoc, ih, leB_length, Int.toNat_natCast]
    rw [Nat.mod_pow_succ]
theorem valB_leB_of {n v : Nat} (h : v < 256 ^ n) : valB (leB n v) = v := by rw [valB_leB, Nat.mod_eq_of_lt h]
theorem pow256 (i : Nat) : (256:Nat) ^ i = 2 ^ (8 * i) := by rw [Nat.pow_mul]
/-- One more byte above. -/
theorem or_byte {acc i x : Nat} (h : acc < 256 ^ i) (hx : x < 256) (hi : i < 8) : bOr .u64 (acc : Int) (iShl .u64 (x : Int) ((8 * i : Nat) : Int)) = ((acc + 256 ^ i * x : Nat) : Int) := by
  have h8 : (256:Nat) ^ i ≤ 256 ^ 7 := Nat.pow_le_pow_right (by decide) (by omega)
  have e8 : (256:Nat) ^ 7 = 72057594037927936 := by decide
  have hb : 256 ^ i * x < 18446744073709551616 := by
    have : 256 ^ i * x ≤ 256 ^ 7 * 255 := Nat.mul_le_mul h8 (by omega)
    rw [e8] at this; omega
  have hs : 256 ^ i * x + 256 ^ i ≤ 18446744073709551616 := by
    have : 256 ^ i * (x + 1) ≤ 256 ^ 7 * 256 := Nat.mul_le_mul h8 (by omega)
    rw [e8] at this
    rw [Nat.mul_add] at this; omega
  have h1 : iShl .u64 (x : Int) ((8 * i : Nat) : Int) = ((256 ^ i * x : Nat) : Int) := by
    unfold iShl
    have e : min (((8 * i : Nat) : Int).toNat) IntKind.u64.bits = 8 * i := by
      rw [Int.toNat_natCast]
      show min (8 * i) 64 = 8 * i
      omega
    have e2 : (x : Int) * 2 ^ (8 * i) = ((256 ^ i * x : Nat) : Int) := by
      rw [pow256]
      push_cast
      exact Int.mul_comm _ _
    rw [e, e2, wrap_u64] <;> omega
  rw [h1, bOr64, ofInt_nat, ofInt_nat]
  have h2 : (BitVec.ofNat 64 acc ||| BitVec.ofNat 64 (256 ^ i * x)).toNat = acc + 256 ^ i * x := by
    rw [BitVec.toNat_or, BitVec.toNat_ofNat, BitVec.toNat_ofNat]
    have e : 2 ^ 64 = 18446744073709551616 := by decide
    rw [e, Nat.mod_eq_of_lt (by omega), Nat.mod_eq_of_lt hb, Nat.or_comm, pow256, ← Nat.two_pow_add_eq_or_of_lt (by rw [← pow256]; exact h)]
    omega
  rw [h2, wrap_u64] <;> omega
theorem shr_byte (v i : Nat) (hi : i < 8) : IntKind.u8.wrap (iShr .u64 (v : Int) ((8 * i : Nat) : Int)) = ((v / 256 ^ i % 256 : Nat) : Int) := by
  unfold iShr
  have e : min (((8 * i : Nat) : Int).toNat) IntKind.u64.bits = 8 * i := by
    rw [Int.toNat_natCast]
    show min (8 * i) 64 = 8 * i
    omega
  have e2 : ((2:Int) ^ (8 * i)) = ((256 ^ i : Nat) : Int) := by
    rw [pow256]; push_cast; rfl
  rw [e, e2, Int.fdiv_eq_ediv_of_nonneg _ (Int.natCast_nonneg _), wrap_u8_eq]
  rw [← Int.natCast_ediv]
  exact (Int.natCast_emod _ 256).symm
end Go.V
