/- Are some nodes more than half of others? The plain law. -/
import Derived.Test.YtkjkbfaaigmmcaaConfigMostCgA
set_option linter.unusedVariables false
set_option linter.unusedSimpArgs false
set_option maxRecDepth 100000
namespace Go.Proofs.Ytkjkbfaaigmmcaa
open Go Go.V
theorem configMost_plain {a0 a1 : Int} (o0 : (Lit.int .u64 a0).wf = true) (o1 : (Lit.int .u64 a1).wf = true) : law04_ConfigMost a0 a1 = some true := by
  obtain ⟨g0, g1⟩ := lit_u64.1 o0
  obtain ⟨k0, k1⟩ := lit_u64.1 o1
  obtain ⟨x, rfl⟩ := Int.eq_ofNat_of_zero_le g0
  obtain ⟨y, rfl⟩ := Int.eq_ofNat_of_zero_le k0
  have hx : x < 2 ^ 64 := by omega
  have hy : y < 2 ^ 64 := by omega
  have h := loop_range (body := law04_ConfigMost_l1 (y : Int) (x : Int)) (fun i => (((cnt i fun j => x.testBit j && y.testBit j : Nat) : Int), ((cnt i fun j => y.testBit j : Nat) : Int), (i : Int))) 64 (((cnt 64 fun j => x.testBit j && y.testBit j : Nat) : Int), ((cnt 64 fun j => y.testBit j : Nat) : Int)) (fun i hi => by
    have d : decide ((i : Int) < (64:Int)) = true := decide_eq_true (by omega)
    have c1 := cnt_le i fun j => x.testBit j && y.testBit j
    have c2 := cnt_le i fun j => y.testBit j
    simp only [law04_ConfigMost_l1, d, cond_true, gd_true (gdn i), gd_t, bit_eq hx, bit_eq hy, wrap_succ (show i ≤ 4294967295 by omega), wrap_succ (show (cnt i fun j => x.testBit j && y.testBit j) ≤ 4294967295 by omega), wrap_succ (show (cnt i fun j => y.testBit j) ≤ 4294967295 by omega), cnt_succ]
    cases x.testBit i <;> cases y.testBit i <;> rfl) rfl
  have h' : loopO (law04_ConfigMost_l1 (y : Int) (x : Int)) ((0:Int), (0:Int), (0:Int)) = some (((cnt 64 fun j => x.testBit j && y.testBit j : Nat) : Int), ((cnt 64 fun j => y.testBit j : Nat) : Int)) := h
  have hand : x &&& y < 2 ^ 64 := Nat.lt_of_le_of_lt Nat.and_le_left hx
  have e1 : cnt 64 (x &&& y).testBit = cnt 64 fun j => x.testBit j && y.testBit j := cnt_congr fun i _ => Nat.testBit_and x y i
  have b1 := cnt_le 64 fun j => x.testBit j && y.testBit j
  have b2 := cnt_le 64 y.testBit
  have w1 : IntKind.i64.wrap ((2:Int) * ((cnt 64 fun j => x.testBit j && y.testBit j : Nat) : Int)) = 2 * ((cnt 64 fun j => x.testBit j && y.testBit j : Nat) : Int) := by rw [wrap_i64] <;> omega
  have w2 : IntKind.i64.wrap (((cnt 64 y.testBit : Nat) : Int) - ((cnt 64 fun j => x.testBit j && y.testBit j : Nat) : Int)) = ((cnt 64 y.testBit : Nat) : Int) - ((cnt 64 fun j => x.testBit j && y.testBit j : Nat) : Int) := by rw [wrap_i64] <;> omega
  rw [law04_ConfigMost, h', Option.bind_some]
  simp only [law04_ConfigMost_j0, cg_awake, Option.bind_some, cond_true, config_Most, bAnd_nat hx hy, ones_cnt hand, ones_cnt hy, e1, w1, w2]
  refine congrArg some (beq_iff_eq.2 (decide_eq_decide.2 ?_))
  show 2 * ((cnt 64 fun j => x.testBit j && y.testBit j : Nat) : Int) > ((cnt 64 y.testBit : Nat) : Int) ↔ _
  omega
end Go.Proofs.Ytkjkbfaaigmmcaa
