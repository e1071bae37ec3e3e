/- Floats of 64 bits: how two words stand to each other. Plain. -/
import Derived.Test.YtijcfglomdfglaaGvSlice
set_option linter.unusedVariables false
set_option linter.unusedSimpArgs false
namespace Go.V
open Go Ieee

/-- The magnitude that a rung stands for, in units of the least one. -/
def fV (a : Nat) : Nat := if a < 4503599627370496 then a else (4503599627370496 + a % 4503599627370496) * 2 ^ (a / 4503599627370496 - 1)
theorem fV_succ (a : Nat) : fV a < fV (a + 1) := by
  unfold fV
  by_cases h1 : a + 1 < 4503599627370496
  · rw [if_pos (by omega), if_pos h1]; omega
  · rw [if_neg h1]
    by_cases h2 : a < 4503599627370496
    · have e : a + 1 = 4503599627370496 := by omega
      rw [if_pos h2, e]
      simp; omega
    · rw [if_neg h2]
      by_cases h3 : a % 4503599627370496 + 1 < 4503599627370496
      · have e1 : (a + 1) / 4503599627370496 = a / 4503599627370496 := by omega
        have e2 : (a + 1) % 4503599627370496 = a % 4503599627370496 + 1 := by omega
        rw [e1, e2]
        exact Nat.mul_lt_mul_of_pos_right (by omega) (Nat.two_pow_pos _)
      · have e1 : (a + 1) / 4503599627370496 - 1 = (a / 4503599627370496 - 1) + 1 := by omega
        have e2 : (a + 1) % 4503599627370496 = 0 := by omega
        rw [e1, e2, Nat.pow_succ, Nat.mul_comm (2 ^ _) 2, ← Nat.mul_assoc]
        exact Nat.mul_lt_mul_of_pos_right (by omega) (Nat.two_pow_pos _)
theorem fV_lt {a b : Nat} (h : a < b) : fV a < fV b := by
  induction b with
  | zero => omega
  | succ b ih =>
    rcases Nat.lt_or_ge a b with h1 | h1
    · exact Nat.lt_trans (ih h1) (fV_succ b)
    · have : a = b := by omega
      subst this; exact fV_succ a
theorem fV_lt_iff {a b : Nat} : fV a < fV b ↔ a < b := by
  refine ⟨fun h => ?_, fV_lt⟩
  rcases Nat.lt_trichotomy a b with h1 | h1 | h1
  · exact h1
  · subst h1; omega
  · have := fV_lt h1; omega
theorem fV_inj {a b : Nat} : fV a = fV b ↔ a = b := by
  refine ⟨fun h => ?_, fun h => by rw [h]⟩
  rcases Nat.lt_trichotomy a b with h1 | h1 | h1
  · have := fV_lt h1; omega
  · exact h1
  · have := fV_lt h1; omega
theorem fV_zero : fV 0 = 0 := by simp [fV]

def fNeg (x : Nat) : Bool := decide (9223372036854775808 ≤ x)
def fRung (x : Nat) : Nat := x % 9223372036854775808
def fNaN (x : Nat) : Bool := decide (9218868437227405312 < fRung x)
/-- The order's key. -/
def fKey (x : Nat) : Int := if 9223372036854775808 ≤ x then -(fRung x : Int) else (fRung x : Int)

theorem signed_eq (s : Bool) (m up : Nat) : signed s m up = if s then -((m * 2 ^ up : Nat) : Int) else ((m * 2 ^ up : Nat) : Int) := by
  simp [signed, Nat.shiftLeft_eq]
theorem read_eq {x : Nat} (hx : x < 18446744073709551616) : FloatKind.f64.format.read x =
    (if fRung x < 4503599627370496 then .number (fNeg x) (fRung x) (-1074)
     else if fRung x < 9218868437227405312 then .number (fNeg x) (4503599627370496 + fRung x % 4503599627370496) (-1074 + ((fRung x / 4503599627370496 - 1 : Nat) : Int))
     else if fRung x = 9218868437227405312 then .infinity (fNeg x) else .nan (fNeg x) (fRung x - 9218868437227405312)) := by
  have e1 : FloatKind.f64.format.signWeight = 9223372036854775808 := by decide
  have e2 : FloatKind.f64.format.binade = 4503599627370496 := by decide
  have e3 : FloatKind.f64.format.infRung = 9218868437227405312 := by decide
  have e4 : FloatKind.f64.format.leastPlace = -1074 := by decide
  have e5 : (x / 9223372036854775808 % 2 == 1) = fNeg x := by
    unfold fNeg
    by_cases h : 9223372036854775808 ≤ x
    · have : x / 9223372036854775808 = 1 := by omega
      simp [h, this]
    · have : x / 9223372036854775808 = 0 := by omega
      simp [h, this]
  simp only [Format.read, e1, e2, e3, e4, e5, fRung]
  rfl
theorem cmp_lt {a b : Int} (h : a < b) : compare a b = .lt := by simp [compare, compareOfLessAndEq, h]
theorem cmp_eq {a b : Int} (h : a = b) : compare a b = .eq := by subst h; simp [compare, compareOfLessAndEq]
theorem cmp_gt {a b : Int} (h : b < a) : compare a b = .gt := by
  have h1 : ¬ a < b := by omega
  have h2 : ¬ a = b := by omega
  simp [compare, compareOfLessAndEq, h1, h2]
theorem cmp_lt_inv {a b : Int} (h : compare a b = .lt) : a < b := by
  rcases Int.lt_trichotomy a b with g | g | g
  · exact g
  · rw [cmp_eq g] at h; cases h
  · rw [cmp_gt g] at h; cases h
theorem cmp_eq_inv {a b : Int} (h : compare a b = .eq) : a = b := by
  rcases Int.lt_trichotomy a b with g | g | g
  · rw [cmp_lt g] at h; cases h
  · exact g
  · rw [cmp_gt g] at h; cases h
theorem cmp_scale (a b : Int) (k : Nat) : compare (a * 2 ^ k) (b * 2 ^ k) = compare a b := by
  have hk : (0:Int) < 2 ^ k := Int.pow_pos (by decide)
  rcases Int.lt_trichotomy a b with h | h | h
  · rw [cmp_lt h, cmp_lt (Int.mul_lt_mul_of_pos_right h hk)]
  · subst h; simp
  · rw [cmp_gt h, cmp_gt (Int.mul_lt_mul_of_pos_right h hk)]
/-- Two numbers whose places are p and q units above the least. -/
theorem order_num (s t : Bool) (m n p q : Nat) : Datum.order (.number s m (-1074 + (p : Int))) (.number t n (-1074 + (q : Int))) =
    some (compare (if s then -((m * 2 ^ p : Nat) : Int) else ((m * 2 ^ p : Nat) : Int)) (if t then -((n * 2 ^ q : Nat) : Int) else ((n * 2 ^ q : Nat) : Int))) := by
  simp only [Datum.order, signed_eq]
  congr 1
  have hb : min (-1074 + (p : Int)) (-1074 + (q : Int)) = -1074 + ((min p q : Nat) : Int) := by omega
  rw [hb]
  have e1 : ((-1074 : Int) + p - (-1074 + ((min p q : Nat) : Int))).toNat = p - min p q := by omega
  have e2 : ((-1074 : Int) + q - (-1074 + ((min p q : Nat) : Int))).toNat = q - min p q := by omega
  rw [e1, e2, ← cmp_scale _ _ (min p q)]
  have h1 : m * 2 ^ p = m * 2 ^ (p - min p q) * 2 ^ (min p q) := by rw [Nat.mul_assoc, ← Nat.pow_add]; congr 2; omega
  have h2 : n * 2 ^ q = n * 2 ^ (q - min p q) * 2 ^ (min p q) := by rw [Nat.mul_assoc, ← Nat.pow_add]; congr 2; omega
  rw [h1, h2]
  cases s <;> cases t <;> simp [Int.neg_mul]
theorem read_num {x : Nat} (hx : x < 18446744073709551616) (h : fRung x < 9218868437227405312) : ∃ m p : Nat, FloatKind.f64.format.read x = .number (fNeg x) m (-1074 + (p : Int)) ∧ m * 2 ^ p = fV (fRung x) := by
  rw [read_eq hx]
  by_cases h1 : fRung x < 4503599627370496
  · exact ⟨fRung x, 0, by rw [if_pos h1]; rfl, by simp [fV, h1]⟩
  · exact ⟨4503599627370496 + fRung x % 4503599627370496, fRung x / 4503599627370496 - 1, by rw [if_neg h1, if_pos h], by simp [fV, h1]⟩
theorem cmp_of_iff {a b c d : Int} (h1 : a < b ↔ c < d) (h2 : a = b ↔ c = d) : compare a b = compare c d := by
  rcases Int.lt_trichotomy a b with h | h | h
  · rw [cmp_lt h, cmp_lt (h1.1 h)]
  · rw [cmp_eq h, cmp_eq (h2.1 h)]
  · have : d < c := by
      rcases Int.lt_trichotomy c d with g | g | g
      · exact absurd (h1.2 g) (by omega)
      · exact absurd (h2.2 g) (by omega)
      · exact g
    rw [cmp_gt h, cmp_gt this]
theorem order_key {x y : Nat} (hx : x < 18446744073709551616) (hy : y < 18446744073709551616) (nx : fNaN x = false) (ny : fNaN y = false) :
    FloatKind.f64.format.order x y = some (compare (fKey x) (fKey y)) := by
  have nx' : fRung x ≤ 9218868437227405312 := by simpa [fNaN] using nx
  have ny' : fRung y ≤ 9218868437227405312 := by simpa [fNaN] using ny
  unfold Format.order
  by_cases h1 : fRung x < 9218868437227405312 <;> by_cases h2 : fRung y < 9218868437227405312
  · obtain ⟨m, p, e1, v1⟩ := read_num hx h1
    obtain ⟨n, q, e2, v2⟩ := read_num hy h2
    rw [e1, e2, order_num, v1, v2]
    congr 1
    have a1 := @fV_lt_iff (fRung x) (fRung y)
    have a2 := @fV_lt_iff (fRung y) (fRung x)
    have a3 := @fV_inj (fRung x) (fRung y)
    have z1 := @fV_lt_iff 0 (fRung x)
    have z2 := @fV_lt_iff 0 (fRung y)
    rw [fV_zero] at z1 z2
    apply cmp_of_iff <;> simp only [fKey, fNeg, decide_eq_true_eq] <;> split <;> split <;> omega
  · obtain ⟨m, p, e1, v1⟩ := read_num hx h1
    have e2 : fRung y = 9218868437227405312 := by omega
    have e3 : FloatKind.f64.format.read y = .infinity (fNeg y) := by rw [read_eq hy, if_neg (by omega), if_neg h2, if_pos e2]
    rw [e1, e3]
    simp only [Datum.order, fNeg, decide_eq_true_eq]
    split
    · rw [cmp_gt]; simp only [fKey]; split <;> omega
    · rw [cmp_lt]; simp only [fKey]; split <;> omega
  · obtain ⟨n, q, e2, v2⟩ := read_num hy h2
    have e1 : fRung x = 9218868437227405312 := by omega
    have e3 : FloatKind.f64.format.read x = .infinity (fNeg x) := by rw [read_eq hx, if_neg (by omega), if_neg h1, if_pos e1]
    rw [e3, e2]
    simp only [Datum.order, fNeg, decide_eq_true_eq]
    split
    · rw [cmp_lt]; simp only [fKey]; split <;> omega
    · rw [cmp_gt]; simp only [fKey]; split <;> omega
  · have e1 : fRung x = 9218868437227405312 := by omega
    have e2 : fRung y = 9218868437227405312 := by omega
    have e3 : FloatKind.f64.format.read x = .infinity (fNeg x) := by rw [read_eq hx, if_neg (by omega), if_neg h1, if_pos e1]
    have e4 : FloatKind.f64.format.read y = .infinity (fNeg y) := by rw [read_eq hy, if_neg (by omega), if_neg h2, if_pos e2]
    rw [e3, e4]
    simp only [Datum.order, fNeg, fKey, e1, e2]
    by_cases g1 : 9223372036854775808 ≤ x <;> by_cases g2 : 9223372036854775808 ≤ y <;> simp [g1, g2] <;> decide
theorem order_nan_l {x y : Nat} (hx : x < 18446744073709551616) (nx : fNaN x = true) : FloatKind.f64.format.order x y = none := by
  have nx' : 9218868437227405312 < fRung x := by simpa [fNaN] using nx
  unfold Format.order
  rw [read_eq hx, if_neg (by omega), if_neg (by omega), if_neg (by omega)]
  rfl
theorem order_nan_r {x y : Nat} (hy : y < 18446744073709551616) (ny : fNaN y = true) : FloatKind.f64.format.order x y = none := by
  have ny' : 9218868437227405312 < fRung y := by simpa [fNaN] using ny
  unfold Format.order
  rw [read_eq hy, if_neg (by omega), if_neg (by omega), if_neg (by omega)]
  cases FloatKind.f64.format.read x <;> rfl
theorem fEq_eq {x y : Nat} (hx : x < 18446744073709551616) (hy : y < 18446744073709551616) : fEq x y = (!fNaN x && !fNaN y && decide (fKey x = fKey y)) := by
  unfold fEq
  cases nx : fNaN x with
  | true => rw [order_nan_l hx nx]; rfl
  | false =>
    cases ny : fNaN y with
    | true => rw [order_nan_r hy ny]; rfl
    | false =>
      rw [order_key hx hy nx ny]
      by_cases h : fKey x = fKey y
      · rw [h]; simp
      · have : compare (fKey x) (fKey y) ≠ .eq := fun e => h (cmp_eq_inv e)
        simp [h, this]
theorem fLt_eq {x y : Nat} (hx : x < 18446744073709551616) (hy : y < 18446744073709551616) : fLt x y = (!fNaN x && !fNaN y && decide (fKey x < fKey y)) := by
  unfold fLt
  cases nx : fNaN x with
  | true => rw [order_nan_l hx nx]; rfl
  | false =>
    cases ny : fNaN y with
    | true => rw [order_nan_r hy ny]; rfl
    | false =>
      rw [order_key hx hy nx ny]
      by_cases h : fKey x < fKey y
      · rw [cmp_lt h]; simp [h]
      · have : compare (fKey x) (fKey y) ≠ .lt := fun e => h (cmp_lt_inv e)
        simp [h, this]
theorem fNe_eq {x y : Nat} : fNe x y = !fEq x y := by unfold fNe fEq; rfl
theorem fNe_self {x : Nat} (hx : x < 18446744073709551616) : fNe x x = fNaN x := by
  rw [fNe_eq, fEq_eq hx hx]; cases fNaN x <;> simp

/-! ### The rank -/
/-- What the store's own order of numbers compares. -/
def fRank (x : Nat) : Int := if fNaN x then 18446744073709551615 else if 9223372036854775808 ≤ x then 18446744073709551615 - x else x + 9223372036854775808
/-! ### Whole numbers that fit -/
theorem two64 : (2:Int) ^ 64 = 18446744073709551616 := by decide
theorem two63 : (2:Int) ^ (64 - 1) = 9223372036854775808 := by decide
theorem wrap_i64_eq (n : Int) : IntKind.i64.wrap n = (n + 9223372036854775808) % 18446744073709551616 - 9223372036854775808 := by
  simp only [IntKind.wrap, IntKind.bits, IntKind.signed, Bool.true_and, decide_eq_true_eq, two64, two63]
  split <;> omega
theorem wrap_u64_eq (n : Int) : IntKind.u64.wrap n = n % 18446744073709551616 := by
  simp only [IntKind.wrap, IntKind.bits, IntKind.signed, Bool.false_and, Bool.false_eq_true, if_false, two64]
theorem wrap_u8_eq (n : Int) : IntKind.u8.wrap n = n % 256 := by
  have : (2:Int) ^ 8 = 256 := by decide
  simp only [IntKind.wrap, IntKind.bits, IntKind.signed, Bool.false_and, Bool.false_eq_true, if_false, this]
theorem wrap_i64 {n : Int} (h : -9223372036854775808 ≤ n) (h2 : n < 9223372036854775808) : IntKind.i64.wrap n = n := by rw [wrap_i64_eq]; omega
theorem wrap_u64 {n : Int} (h : 0 ≤ n) (h2 : n < 18446744073709551616) : IntKind.u64.wrap n = n := by rw [wrap_u64_eq]; omega
theorem wrap_u8 {n : Int} (h : 0 ≤ n) (h2 : n < 256) : IntKind.u8.wrap n = n := by rw [wrap_u8_eq]; omega
theorem lit_u8 {n : Int} : (Lit.int .u8 n).wf = true ↔ 0 ≤ n ∧ n < 256 := by
  have h1 : IntKind.u8.min = 0 := by decide
  have h2 : IntKind.u8.max = 255 := by decide
  simp only [Lit.wf, h1, h2, Bool.and_eq_true, decide_eq_true_eq]; omega
theorem ofInt_nat (x : Nat) : BitVec.ofInt 64 (x : Int) = BitVec.ofNat 64 x := by simp
theorem bXor64 (a b : Int) : bXor .u64 a b = IntKind.u64.wrap ((BitVec.ofInt 64 a ^^^ BitVec.ofInt 64 b).toNat : Int) := rfl
theorem bOr64 (a b : Int) : bOr .u64 a b = IntKind.u64.wrap ((BitVec.ofInt 64 a ||| BitVec.ofInt 64 b).toNat : Int) := rfl
theorem bAnd64 (a b : Int) : bAnd .u64 a b = IntKind.u64.wrap ((BitVec.ofInt 64 a &&& BitVec.ofInt 64 b).toNat : Int) := rfl
theorem xor_all {x : Nat} (hx : x < 18446744073709551616) : bXor .u64 18446744073709551615 (x : Int) = 18446744073709551615 - x := by
  have h1 : BitVec.ofInt 64 (18446744073709551615:Int) = BitVec.allOnes 64 := by decide
  have h3 : (BitVec.allOnes 64 ^^^ BitVec.ofNat 64 x).toNat = 18446744073709551615 - x := by
    rw [BitVec.allOnes_xor, BitVec.toNat_not, BitVec.toNat_ofNat]
    have : 2 ^ 64 = 18446744073709551616 := by decide
    rw [this, Nat.mod_eq_of_lt hx]
  rw [bXor64, h1, ofInt_nat, h3, wrap_u64] <;> omega
theorem or_top {x : Nat} (hx : x < 9223372036854775808) : bOr .u64 (x : Int) 9223372036854775808 = x + 9223372036854775808 := by
  have h1 : BitVec.ofInt 64 (9223372036854775808:Int) = BitVec.ofNat 64 9223372036854775808 := by decide
  have h3 : (BitVec.ofNat 64 x ||| BitVec.ofNat 64 9223372036854775808).toNat = x + 9223372036854775808 := by
    rw [BitVec.toNat_or, BitVec.toNat_ofNat, BitVec.toNat_ofNat]
    have e : 2 ^ 64 = 18446744073709551616 := by decide
    rw [e, Nat.mod_eq_of_lt (by omega), Nat.mod_eq_of_lt (by omega)]
    have := Nat.two_pow_add_eq_or_of_lt (i := 63) (b := x) (by simpa using hx) 1
    rw [Nat.or_comm]
    have e63 : 2 ^ 63 * 1 = 9223372036854775808 := by decide
    rw [e63] at this
    omega
  rw [bOr64, h1, ofInt_nat, h3, wrap_u64] <;> omega
theorem shr_63 (x : Nat) : iShr .u64 (x : Int) 63 = (x / 9223372036854775808 : Nat) := by
  unfold iShr
  have e : ((2:Int) ^ (min (Int.toNat 63) IntKind.u64.bits)) = 9223372036854775808 := by decide
  rw [e, Int.fdiv_eq_ediv_of_nonneg _ (by decide)]
  rfl
theorem bAndNot64 (a b : Int) : bAndNot .u64 a b = IntKind.u64.wrap ((BitVec.ofInt 64 a &&& ~~~BitVec.ofInt 64 b).toNat : Int) := rfl
theorem andNot_top {x : Nat} (hx : x < 18446744073709551616) : bAndNot .u64 (x : Int) 9223372036854775808 = ((x % 9223372036854775808 : Nat) : Int) := by
  have h1 : BitVec.ofInt 64 (9223372036854775808:Int) = BitVec.ofNat 64 9223372036854775808 := by decide
  have h3 : (BitVec.ofNat 64 x &&& ~~~BitVec.ofNat 64 9223372036854775808).toNat = x % 9223372036854775808 := by
    rw [BitVec.toNat_and, BitVec.toNat_ofNat]
    have e : (~~~BitVec.ofNat 64 9223372036854775808).toNat = 2 ^ 63 - 1 := by decide
    have e2 : 2 ^ 64 = 18446744073709551616 := by decide
    rw [e, e2, Nat.mod_eq_of_lt hx, Nat.and_two_pow_sub_one_eq_mod]
  rw [bAndNot64, h1, ofInt_nat, h3, wrap_u64] <;> omega
end Go.V
