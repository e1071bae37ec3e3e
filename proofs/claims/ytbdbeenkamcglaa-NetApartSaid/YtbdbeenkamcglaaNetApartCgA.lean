/- Configs: which are right, and the plan of one; plainly. -/
import Derived.Test.YtbdbeenkamcglaaNetApartLbW
import Derived.Test.YtbdbeenkamcglaaNetApartFltR
import Derived.Test.YtbdbeenkamcglaaNetApartFlt
set_option linter.unusedVariables false
set_option linter.unusedSimpArgs false
set_option maxRecDepth 100000
namespace Go.Proofs.Ytbdbeenkamcglaa
open Go Go.V
/-- What a config's numbers come to. -/
def okC (c : api_Config) (b : Bool) : Bool := !decide (c.Nodes < 1) && (!decide (c.Nodes > 7) && (!decide ((c.Cuts.length : Int) ≥ 8) && (b && (!decide (c.Frame < 64) && (!decide (c.Frame > 4096) && (!decide (c.Depth < 1) && (!decide (c.Depth > 65536) && (!decide (c.Quota < 1) && (!decide (c.Quota > 268435456) && (!decide (c.Wide < 0) && (!decide (c.Wide > 256) && (!decide (c.Beat < 1) && (!decide (c.Elect ≤ c.Beat) && !decide (c.Elect > 1000))))))))))))))
theorem new_c (c : api_Config) {b : Bool} (hb : number_Rising c.Cuts = some b) : config_New c = bif okC c b then (label_New c.Up).bind fun t => bif (t.2 != (0:Int)) then some (none, t.2) else some (some ({ C := c, L := t.1 } : config_Plan), (0:Int)) else some (none, 1) := by
  delta config_New config_New_j0 config_New_j1 config_New_j2
  simp only [hb, Option.bind_some, okC]
  cases decide (c.Nodes < (1:Int)) with
  | true => rfl
  | false =>
  cases decide (c.Nodes > (7:Int)) with
  | true => rfl
  | false =>
  cases decide ((c.Cuts.length : Int) ≥ (8:Int)) with
  | true => rfl
  | false =>
  cases b with
  | false => rfl
  | true =>
  cases decide (c.Frame < (64:Int)) with
  | true => rfl
  | false =>
  cases decide (c.Frame > (4096:Int)) with
  | true => rfl
  | false =>
  cases decide (c.Depth < (1:Int)) with
  | true => rfl
  | false =>
  cases decide (c.Depth > (65536:Int)) with
  | true => rfl
  | false =>
  cases decide (c.Quota < (1:Int)) with
  | true => rfl
  | false =>
  cases decide (c.Quota > (268435456:Int)) with
  | true => rfl
  | false =>
  cases decide (c.Wide < (0:Int)) with
  | true => rfl
  | false =>
  cases decide (c.Wide > (256:Int)) with
  | true => rfl
  | false =>
  cases decide (c.Beat < (1:Int)) with
  | true => rfl
  | false =>
  cases decide (c.Elect ≤ c.Beat) with
  | true => rfl
  | false =>
  cases decide (c.Elect > (1000:Int)) with
  | true => rfl
  | false => rfl
/-! ### Small configs -/
def smC (us : List Nat) (n : Int) (cuts : List Nat) : api_Config := { Up := up us, Nodes := n, Cuts := cuts, Frame := 128, Depth := 512, Quota := 1048576, Wide := 8, Beat := 2, Elect := 4 }
def plS (us : List Nat) (n : Int) (cuts : List Nat) : config_Plan := { C := smC us n cuts, L := some (latF us) }
theorem new_small {us : List Nat} {n : Int} {cuts : List Nat} (hn : 1 ≤ n ∧ n ≤ 3) (hl : cuts.length ≤ 7) (hnew : label_New (up us) = some (some (latF us), 0)) {b : Bool} (hb : number_Rising cuts = some b) :
    config_New (smC us n cuts) = some (bif b then (some (plS us n cuts), 0) else (none, 1)) := by
  rw [new_c _ hb]
  have e : okC (smC us n cuts) b = b := by
    have e1 : decide (n < 1) = false := decide_eq_false (by omega)
    have e2 : decide (n > 7) = false := decide_eq_false (by omega)
    have e3 : decide ((cuts.length : Int) ≥ 8) = false := decide_eq_false (by omega)
    show (!decide (n < 1) && (!decide (n > 7) && (!decide ((cuts.length : Int) ≥ 8) && (b && true)))) = b
    rw [e1, e2, e3]
    cases b <;> rfl
  rw [e]
  cases b with
  | false => rfl
  | true => rw [cond_true, cond_true, show (smC us n cuts).Up = up us from rfl, hnew]; rfl
section
variable {us : List Nat} {n : Int} {cuts : List Nat}
theorem l0_eq : config_Plan_L0 (some (plS us n cuts)) = some (us.length : Int) := by
  show ((label_Lattice_Len (some (latF us))).bind fun t => some t) = _
  rw [len_eqL]; rfl
theorem shards_eq (hl : cuts.length ≤ 7) : config_Plan_Shards (some (plS us n cuts)) = some ((cuts.length + 1 : Nat) : Int) := by
  show some (IntKind.i64.wrap ((cuts.length : Int) + 1)) = _
  rw [wrap_succ (show cuts.length ≤ 4294967295 by omega)]
theorem mul_w {a b : Nat} (ha : a ≤ 16) (hb : b ≤ 8) : IntKind.i64.wrap ((a : Int) * (b : Int)) = ((a * b : Nat) : Int) := by
  have := Nat.mul_le_mul ha hb
  rw [show (a : Int) * (b : Int) = ((a * b : Nat) : Int) from by push_cast; rfl, wrap_i64] <;> omega
theorem lanes_eq (hl : cuts.length ≤ 7) (hu : us.length ≤ 16) : config_Plan_Lanes (some (plS us n cuts)) = some ((us.length * (cuts.length + 1) + 1 : Nat) : Int) := by
  have := Nat.mul_le_mul hu (show cuts.length + 1 ≤ 8 by omega)
  simp only [config_Plan_Lanes, l0_eq, shards_eq hl, Option.bind_some, mul_w hu (show cuts.length + 1 ≤ 8 by omega), wrap_succ (show us.length * (cuts.length + 1) ≤ 4294967295 by omega)]
theorem rules_eq (hl : cuts.length ≤ 7) (hu : us.length ≤ 16) : config_Plan_Rules (some (plS us n cuts)) = some ((us.length * (cuts.length + 1) : Nat) : Int) := by
  have := Nat.mul_le_mul hu (show cuts.length + 1 ≤ 8 by omega)
  have w : IntKind.i64.wrap (((us.length * (cuts.length + 1) + 1 : Nat) : Int) - (1:Int)) = ((us.length * (cuts.length + 1) : Nat) : Int) := by rw [wrap_i64] <;> omega
  simp only [config_Plan_Rules, lanes_eq hl hu, Option.bind_some, w]
theorem bottom_eq (h1 : 1 ≤ us.length) (hn : us.length ≤ 16) : label_Lattice_Bottom (some (latF us)) = some (((srt us)[0]'(by rw [srt_len hn]; omega) : Nat) : Int) := by
  show ((geto (up (srt us)) ((0 : Nat) : Int)).bind fun x => some x) = _
  rw [get_srt (by rw [srt_len hn]; omega)]; rfl
end
end Go.Proofs.Ytbdbeenkamcglaa
