/-
  No cell of these rows narrows 'for every input' (looked for: loops, veiled, ifaces, maps, wideKeys, modest, calm, conditions, laid).
  DERIVED. THE GIVEN ROWS OF THIS SEAT. 6 by the template 'for every input the law returns true; each argument reads behind the call as it read before'; 0 by the template 'total and deterministic' (their statements: YtkjkbfaaigmmcaaTotals.lean).
  GIVEN WITH THE SEED: the statements are not yours to turn. If you find one false, say at which input.
  Laid BY PROGRAM, IN A SANDBOX (cutbox-rows.mjs): the forced cells as the released guide's own fill.sh prints them over the translation 6f2c678890b15f21… (all of the seat's roots in one cut). By AI agents, Wed Nov 11 2026. No macro, syntax, notation, axiom, sorry.
-/
import Derived.Test.YtkjkbfaaigmmcaaChecked
import GoSem.Claim
import GoSem.ClaimJoined
import GoSem.ClaimMapViews
import Derived.JoinedTies
import Derived.KernelRfl
namespace Go.Proofs.Ytkjkbfaaigmmcaa
/- THE CELL 'sum', in the pinned program and in every row, IS THE sha256 OF THE DUMP (.gsa) THAT YtkjkbfaaigmmcaaProg.lean LOADS. Nothing in Lean hashes anything: it is a label: what it is worth is what the hold of that sum in a sandbox is worth. -/
noncomputable def Try.pinned : Pinned := { name := "ytkjkbfaaigmmcaa", sum := "6f2c678890b15f215547500ec0e9c50a9fb818287d4a0b403656e4dfd62f2a23", checked := Try.checked }
namespace Rows
def none {H : Type} : Left H := { results := [], args := [] }

/-- 'dumbwaiterlaw04.ConfigMost': WHATEVER THE INPUT: true; the input reads as it did. -/
def configMostSpec : ChangeSpec := { name := "configMost", fn := fun _ => fun
  | [d1, d2] => { results := [.lit (.bool true)], args := [d1, d2] }
  | _ => none }
def configMostRow : OpenClaim := { program := "ytkjkbfaaigmmcaa", sum := "6f2c678890b15f215547500ec0e9c50a9fb818287d4a0b403656e4dfd62f2a23", func := "dumbwaiter/dumbwaiterlaw04.ConfigMost", spec := "configMost", inPlace := ["math.Float64bits"], unfollowed := true, recurses := true, apart := false }
def ConfigMostSaid : Prop := configMostRow.holds Try.pinned (OpenSpec.ofChange configMostSpec)

/-- ITS FALSE NEIGHBOUR: 'it returns false'. Refute it at one input. -/
def configMostWrong : ChangeSpec := { name := "configMost", fn := fun _ => fun
  | [d1, d2] => { results := [.lit (.bool false)], args := [d1, d2] }
  | _ => none }
def ConfigMostWrongFalsely : Prop := configMostRow.holds Try.pinned (OpenSpec.ofChange configMostWrong)

/-- 'dumbwaiterlaw04.ConfigChecks': WHATEVER THE INPUT: true; the input reads as it did. -/
def configChecksSpec : ChangeSpec := { name := "configChecks", fn := fun _ => fun
  | [d] => { results := [.lit (.bool true)], args := [d] }
  | _ => none }
def configChecksRow : OpenClaim := { program := "ytkjkbfaaigmmcaa", sum := "6f2c678890b15f215547500ec0e9c50a9fb818287d4a0b403656e4dfd62f2a23", func := "dumbwaiter/dumbwaiterlaw04.ConfigChecks", spec := "configChecks", inPlace := ["math.Float64bits"], unfollowed := true, recurses := true, apart := false }
def ConfigChecksSaid : Prop := configChecksRow.holds Try.pinned (OpenSpec.ofChange configChecksSpec)

/-- ITS FALSE NEIGHBOUR: 'it returns false'. Refute it at one input. -/
def configChecksWrong : ChangeSpec := { name := "configChecks", fn := fun _ => fun
  | [d] => { results := [.lit (.bool false)], args := [d] }
  | _ => none }
def ConfigChecksWrongFalsely : Prop := configChecksRow.holds Try.pinned (OpenSpec.ofChange configChecksWrong)

/-- 'dumbwaiterlaw04.ConfigNear': WHATEVER THE INPUT: true; the input reads as it did. -/
def configNearSpec : ChangeSpec := { name := "configNear", fn := fun _ => fun
  | [d1, d2, d3] => { results := [.lit (.bool true)], args := [d1, d2, d3] }
  | _ => none }
def configNearRow : OpenClaim := { program := "ytkjkbfaaigmmcaa", sum := "6f2c678890b15f215547500ec0e9c50a9fb818287d4a0b403656e4dfd62f2a23", func := "dumbwaiter/dumbwaiterlaw04.ConfigNear", spec := "configNear", inPlace := ["math.Float64bits"], unfollowed := true, recurses := true, apart := false }
def ConfigNearSaid : Prop := configNearRow.holds Try.pinned (OpenSpec.ofChange configNearSpec)

/-- ITS FALSE NEIGHBOUR: 'it returns false'. Refute it at one input. -/
def configNearWrong : ChangeSpec := { name := "configNear", fn := fun _ => fun
  | [d1, d2, d3] => { results := [.lit (.bool false)], args := [d1, d2, d3] }
  | _ => none }
def ConfigNearWrongFalsely : Prop := configNearRow.holds Try.pinned (OpenSpec.ofChange configNearWrong)

/-- 'dumbwaiterlaw04.ConfigRules': WHATEVER THE INPUT: true; the input reads as it did. -/
def configRulesSpec : ChangeSpec := { name := "configRules", fn := fun _ => fun
  | [d1, d2] => { results := [.lit (.bool true)], args := [d1, d2] }
  | _ => none }
def configRulesRow : OpenClaim := { program := "ytkjkbfaaigmmcaa", sum := "6f2c678890b15f215547500ec0e9c50a9fb818287d4a0b403656e4dfd62f2a23", func := "dumbwaiter/dumbwaiterlaw04.ConfigRules", spec := "configRules", inPlace := ["math.Float64bits"], unfollowed := true, recurses := true, apart := false }
def ConfigRulesSaid : Prop := configRulesRow.holds Try.pinned (OpenSpec.ofChange configRulesSpec)

/-- ITS FALSE NEIGHBOUR: 'it returns false'. Refute it at one input. -/
def configRulesWrong : ChangeSpec := { name := "configRules", fn := fun _ => fun
  | [d1, d2] => { results := [.lit (.bool false)], args := [d1, d2] }
  | _ => none }
def ConfigRulesWrongFalsely : Prop := configRulesRow.holds Try.pinned (OpenSpec.ofChange configRulesWrong)

/-- 'dumbwaiterlaw04.ConfigLanes': WHATEVER THE INPUT: true; the input reads as it did. -/
def configLanesSpec : ChangeSpec := { name := "configLanes", fn := fun _ => fun
  | [d1, d2] => { results := [.lit (.bool true)], args := [d1, d2] }
  | _ => none }
def configLanesRow : OpenClaim := { program := "ytkjkbfaaigmmcaa", sum := "6f2c678890b15f215547500ec0e9c50a9fb818287d4a0b403656e4dfd62f2a23", func := "dumbwaiter/dumbwaiterlaw04.ConfigLanes", spec := "configLanes", inPlace := ["math.Float64bits"], unfollowed := true, recurses := true, apart := false }
def ConfigLanesSaid : Prop := configLanesRow.holds Try.pinned (OpenSpec.ofChange configLanesSpec)

/-- ITS FALSE NEIGHBOUR: 'it returns false'. Refute it at one input. -/
def configLanesWrong : ChangeSpec := { name := "configLanes", fn := fun _ => fun
  | [d1, d2] => { results := [.lit (.bool false)], args := [d1, d2] }
  | _ => none }
def ConfigLanesWrongFalsely : Prop := configLanesRow.holds Try.pinned (OpenSpec.ofChange configLanesWrong)

/-- 'dumbwaiterlaw04.ConfigShards': WHATEVER THE INPUT: true; the input reads as it did. -/
def configShardsSpec : ChangeSpec := { name := "configShards", fn := fun _ => fun
  | [d1, d2, d3] => { results := [.lit (.bool true)], args := [d1, d2, d3] }
  | _ => none }
def configShardsRow : OpenClaim := { program := "ytkjkbfaaigmmcaa", sum := "6f2c678890b15f215547500ec0e9c50a9fb818287d4a0b403656e4dfd62f2a23", func := "dumbwaiter/dumbwaiterlaw04.ConfigShards", spec := "configShards", inPlace := ["math.Float64bits"], unfollowed := true, recurses := true, apart := false }
def ConfigShardsSaid : Prop := configShardsRow.holds Try.pinned (OpenSpec.ofChange configShardsSpec)

/-- ITS FALSE NEIGHBOUR: 'it returns false'. Refute it at one input. -/
def configShardsWrong : ChangeSpec := { name := "configShards", fn := fun _ => fun
  | [d1, d2, d3] => { results := [.lit (.bool false)], args := [d1, d2, d3] }
  | _ => none }
def ConfigShardsWrongFalsely : Prop := configShardsRow.holds Try.pinned (OpenSpec.ofChange configShardsWrong)

/- THE SECOND FORM. 'bulk': how many values and letters a reading holds, each counted each time it is reached (what is shared counts as often as it is met; a slice's spare places count too). A statement '..UptoSaid' is the law's where the arguments, and the package variables that the reading takes, are together of bulk at most 1048576: NARROWER than '..Said'. Prove '..Said' where nothing that the law and all that it calls make is longer than what came in: it says more and counts as full. Else prove '..UptoSaid'. A law counts once. -/
mutual
def uptoBulk {H : Type} : DataW H → Nat
  | .lit (.string bytes) => bytes.length + 1
  | .lit _ => 1
  | .nil => 1
  | .ptr d => uptoBulk d + 1
  | .slice elems spare => uptoBulkAll elems + uptoBulkAll spare + 1
  | .agg parts => uptoBulkAll parts + 1
  | .iface _ d => uptoBulk d + 1
  | .map entries => uptoBulkEntries entries + 1
  | .held _ => 1
def uptoBulkAll {H : Type} : List (DataW H) → Nat
  | [] => 0
  | d :: r => uptoBulk d + uptoBulkAll r
def uptoBulkEntries {H : Type} : List (Lit × DataW H) → Nat
  | [] => 0
  | x :: r => uptoBulkEntry x + uptoBulkEntries r
def uptoBulkEntry {H : Type} : Lit × DataW H → Nat
  | (.string bytes, d) => bytes.length + uptoBulk d + 1
  | (_, d) => uptoBulk d + 1
 end
def uptoSmall : (H : Type) → List (DataW H) → Bool := fun _ ds => decide (uptoBulkAll ds ≤ 1048576)
def OpenSpec.upto (s : _root_.Go.ChangeSpec) : _root_.Go.OpenSpec := { _root_.Go.OpenSpec.ofChange s with cond := some uptoSmall }

/-- 'dumbwaiterlaw04.ConfigMost', WHERE WHAT IT READS IS OF BULK AT MOST 1048576: true; the input reads as it did. -/
def configMostUptoRow : OpenClaim := { program := "ytkjkbfaaigmmcaa", sum := "6f2c678890b15f215547500ec0e9c50a9fb818287d4a0b403656e4dfd62f2a23", func := "dumbwaiter/dumbwaiterlaw04.ConfigMost", spec := "configMost", inPlace := ["math.Float64bits"], unfollowed := true, recurses := true, apart := false, narrowed := true }
def ConfigMostUptoSaid : Prop := configMostUptoRow.holds Try.pinned (OpenSpec.upto configMostSpec)

/-- 'dumbwaiterlaw04.ConfigChecks', WHERE WHAT IT READS IS OF BULK AT MOST 1048576: true; the input reads as it did. -/
def configChecksUptoRow : OpenClaim := { program := "ytkjkbfaaigmmcaa", sum := "6f2c678890b15f215547500ec0e9c50a9fb818287d4a0b403656e4dfd62f2a23", func := "dumbwaiter/dumbwaiterlaw04.ConfigChecks", spec := "configChecks", inPlace := ["math.Float64bits"], unfollowed := true, recurses := true, apart := false, narrowed := true }
def ConfigChecksUptoSaid : Prop := configChecksUptoRow.holds Try.pinned (OpenSpec.upto configChecksSpec)

/-- 'dumbwaiterlaw04.ConfigNear', WHERE WHAT IT READS IS OF BULK AT MOST 1048576: true; the input reads as it did. -/
def configNearUptoRow : OpenClaim := { program := "ytkjkbfaaigmmcaa", sum := "6f2c678890b15f215547500ec0e9c50a9fb818287d4a0b403656e4dfd62f2a23", func := "dumbwaiter/dumbwaiterlaw04.ConfigNear", spec := "configNear", inPlace := ["math.Float64bits"], unfollowed := true, recurses := true, apart := false, narrowed := true }
def ConfigNearUptoSaid : Prop := configNearUptoRow.holds Try.pinned (OpenSpec.upto configNearSpec)

/-- 'dumbwaiterlaw04.ConfigRules', WHERE WHAT IT READS IS OF BULK AT MOST 1048576: true; the input reads as it did. -/
def configRulesUptoRow : OpenClaim := { program := "ytkjkbfaaigmmcaa", sum := "6f2c678890b15f215547500ec0e9c50a9fb818287d4a0b403656e4dfd62f2a23", func := "dumbwaiter/dumbwaiterlaw04.ConfigRules", spec := "configRules", inPlace := ["math.Float64bits"], unfollowed := true, recurses := true, apart := false, narrowed := true }
def ConfigRulesUptoSaid : Prop := configRulesUptoRow.holds Try.pinned (OpenSpec.upto configRulesSpec)

/-- 'dumbwaiterlaw04.ConfigLanes', WHERE WHAT IT READS IS OF BULK AT MOST 1048576: true; the input reads as it did. -/
def configLanesUptoRow : OpenClaim := { program := "ytkjkbfaaigmmcaa", sum := "6f2c678890b15f215547500ec0e9c50a9fb818287d4a0b403656e4dfd62f2a23", func := "dumbwaiter/dumbwaiterlaw04.ConfigLanes", spec := "configLanes", inPlace := ["math.Float64bits"], unfollowed := true, recurses := true, apart := false, narrowed := true }
def ConfigLanesUptoSaid : Prop := configLanesUptoRow.holds Try.pinned (OpenSpec.upto configLanesSpec)

/-- 'dumbwaiterlaw04.ConfigShards', WHERE WHAT IT READS IS OF BULK AT MOST 1048576: true; the input reads as it did. -/
def configShardsUptoRow : OpenClaim := { program := "ytkjkbfaaigmmcaa", sum := "6f2c678890b15f215547500ec0e9c50a9fb818287d4a0b403656e4dfd62f2a23", func := "dumbwaiter/dumbwaiterlaw04.ConfigShards", spec := "configShards", inPlace := ["math.Float64bits"], unfollowed := true, recurses := true, apart := false, narrowed := true }
def ConfigShardsUptoSaid : Prop := configShardsUptoRow.holds Try.pinned (OpenSpec.upto configShardsSpec)

end Rows
end Go.Proofs.Ytkjkbfaaigmmcaa
