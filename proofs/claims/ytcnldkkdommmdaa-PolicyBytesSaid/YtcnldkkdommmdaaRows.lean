/-
  No cell of these rows narrows 'for every input' (looked for: loops, veiled, ifaces, maps, wideKeys, modest, calm, conditions, laid).
  DERIVED. THE GIVEN ROWS OF THIS SEAT. 5 by the template 'for every input the law returns true; each argument reads behind the call as it read before'; 0 by the template 'total and deterministic' (their statements: YtcnldkkdommmdaaTotals.lean).
  GIVEN WITH THE SEED: the statements are not yours to turn. If you find one false, say at which input.
  Laid BY PROGRAM, IN A SANDBOX (cutbox-rows.mjs): the forced cells as the released guide's own fill.sh prints them over the translation 861d62ff13d08441… (all of the seat's roots in one cut). By AI agents, Wed Nov 11 2026. No macro, syntax, notation, axiom, sorry.
-/
import Derived.Test.YtcnldkkdommmdaaChecked
import GoSem.Claim
import GoSem.ClaimJoined
import GoSem.ClaimMapViews
import Derived.JoinedTies
import Derived.KernelRfl
namespace Go.Proofs.Ytcnldkkdommmdaa
/- THE CELL 'sum', in the pinned program and in every row, IS THE sha256 OF THE DUMP (.gsa) THAT YtcnldkkdommmdaaProg.lean LOADS. Nothing in Lean hashes anything: it is a label: what it is worth is what the hold of that sum in a sandbox is worth. -/
noncomputable def Try.pinned : Pinned := { name := "ytcnldkkdommmdaa", sum := "861d62ff13d0844181d224dca8fd17caed6b26341a86a78eb3b99ebcd0b8eb3c", checked := Try.checked }
namespace Rows
def none {H : Type} : Left H := { results := [], args := [] }

/-- 'dumbwaiterlaw15.PolicyOne': WHATEVER THE INPUT: true; the input reads as it did. -/
def policyOneSpec : ChangeSpec := { name := "policyOne", fn := fun _ => fun
  | [d1, d2] => { results := [.lit (.bool true)], args := [d1, d2] }
  | _ => none }
def policyOneRow : OpenClaim := { program := "ytcnldkkdommmdaa", sum := "861d62ff13d0844181d224dca8fd17caed6b26341a86a78eb3b99ebcd0b8eb3c", func := "dumbwaiter/dumbwaiterlaw15.PolicyOne", spec := "policyOne", inPlace := ["math.Float64bits"], apart := false }
def PolicyOneSaid : Prop := policyOneRow.holds Try.pinned (OpenSpec.ofChange policyOneSpec)

/-- ITS FALSE NEIGHBOUR: 'it returns false'. Refute it at one input. -/
def policyOneWrong : ChangeSpec := { name := "policyOne", fn := fun _ => fun
  | [d1, d2] => { results := [.lit (.bool false)], args := [d1, d2] }
  | _ => none }
def PolicyOneWrongFalsely : Prop := policyOneRow.holds Try.pinned (OpenSpec.ofChange policyOneWrong)

/-- 'dumbwaiterlaw15.PolicyNil': WHATEVER THE INPUT: true; the input reads as it did. -/
def policyNilSpec : ChangeSpec := { name := "policyNil", fn := fun _ => fun
  | [d1, d2, d3] => { results := [.lit (.bool true)], args := [d1, d2, d3] }
  | _ => none }
def policyNilRow : OpenClaim := { program := "ytcnldkkdommmdaa", sum := "861d62ff13d0844181d224dca8fd17caed6b26341a86a78eb3b99ebcd0b8eb3c", func := "dumbwaiter/dumbwaiterlaw15.PolicyNil", spec := "policyNil", apart := false }
def PolicyNilSaid : Prop := policyNilRow.holds Try.pinned (OpenSpec.ofChange policyNilSpec)

/-- ITS FALSE NEIGHBOUR: 'it returns false'. Refute it at one input. -/
def policyNilWrong : ChangeSpec := { name := "policyNil", fn := fun _ => fun
  | [d1, d2, d3] => { results := [.lit (.bool false)], args := [d1, d2, d3] }
  | _ => none }
def PolicyNilWrongFalsely : Prop := policyNilRow.holds Try.pinned (OpenSpec.ofChange policyNilWrong)

/-- 'dumbwaiterlaw15.PolicyPlays': WHATEVER THE INPUT: true; the input reads as it did. -/
def policyPlaysSpec : ChangeSpec := { name := "policyPlays", fn := fun _ => fun
  | [d1, d2] => { results := [.lit (.bool true)], args := [d1, d2] }
  | _ => none }
def policyPlaysRow : OpenClaim := { program := "ytcnldkkdommmdaa", sum := "861d62ff13d0844181d224dca8fd17caed6b26341a86a78eb3b99ebcd0b8eb3c", func := "dumbwaiter/dumbwaiterlaw15.PolicyPlays", spec := "policyPlays", inPlace := ["math.Float64bits"], apart := false }
def PolicyPlaysSaid : Prop := policyPlaysRow.holds Try.pinned (OpenSpec.ofChange policyPlaysSpec)

/-- ITS FALSE NEIGHBOUR: 'it returns false'. Refute it at one input. -/
def policyPlaysWrong : ChangeSpec := { name := "policyPlays", fn := fun _ => fun
  | [d1, d2] => { results := [.lit (.bool false)], args := [d1, d2] }
  | _ => none }
def PolicyPlaysWrongFalsely : Prop := policyPlaysRow.holds Try.pinned (OpenSpec.ofChange policyPlaysWrong)

/-- 'dumbwaiterlaw15.PolicyAllows': WHATEVER THE INPUT: true; the input reads as it did. -/
def policyAllowsSpec : ChangeSpec := { name := "policyAllows", fn := fun _ => fun
  | [d1, d2, d3] => { results := [.lit (.bool true)], args := [d1, d2, d3] }
  | _ => none }
def policyAllowsRow : OpenClaim := { program := "ytcnldkkdommmdaa", sum := "861d62ff13d0844181d224dca8fd17caed6b26341a86a78eb3b99ebcd0b8eb3c", func := "dumbwaiter/dumbwaiterlaw15.PolicyAllows", spec := "policyAllows", inPlace := ["math.Float64bits"], apart := false }
def PolicyAllowsSaid : Prop := policyAllowsRow.holds Try.pinned (OpenSpec.ofChange policyAllowsSpec)

/-- ITS FALSE NEIGHBOUR: 'it returns false'. Refute it at one input. -/
def policyAllowsWrong : ChangeSpec := { name := "policyAllows", fn := fun _ => fun
  | [d1, d2, d3] => { results := [.lit (.bool false)], args := [d1, d2, d3] }
  | _ => none }
def PolicyAllowsWrongFalsely : Prop := policyAllowsRow.holds Try.pinned (OpenSpec.ofChange policyAllowsWrong)

/-- 'dumbwaiterlaw15.PolicyBytes': WHATEVER THE INPUT: true; the input reads as it did. -/
def policyBytesSpec : ChangeSpec := { name := "policyBytes", fn := fun _ => fun
  | [d1, d2, d3, d4] => { results := [.lit (.bool true)], args := [d1, d2, d3, d4] }
  | _ => none }
def policyBytesRow : OpenClaim := { program := "ytcnldkkdommmdaa", sum := "861d62ff13d0844181d224dca8fd17caed6b26341a86a78eb3b99ebcd0b8eb3c", func := "dumbwaiter/dumbwaiterlaw15.PolicyBytes", spec := "policyBytes", inPlace := ["math.Float64bits", "math.Float64frombits"], apart := false }
def PolicyBytesSaid : Prop := policyBytesRow.holds Try.pinned (OpenSpec.ofChange policyBytesSpec)

/-- ITS FALSE NEIGHBOUR: 'it returns false'. Refute it at one input. -/
def policyBytesWrong : ChangeSpec := { name := "policyBytes", fn := fun _ => fun
  | [d1, d2, d3, d4] => { results := [.lit (.bool false)], args := [d1, d2, d3, d4] }
  | _ => none }
def PolicyBytesWrongFalsely : Prop := policyBytesRow.holds Try.pinned (OpenSpec.ofChange policyBytesWrong)

/- THE SECOND FORM. 'bulk': how many values and letters a reading holds, each counted each time it is reached (what is shared counts as often as it is met; a slice's spare places count too). A statement '..UptoSaid' is the law's where the arguments, and the package variables that the reading takes, are together of bulk at most 1048576: NARROWER than '..Said'. Prove '..Said' where nothing that the law and all that it calls make is longer than what came in: it says more and counts as full. Else prove '..UptoSaid'. A law counts once. -/
mutual
def uptoBulk {H : Type} : DataW H → Nat
  | .lit (.string bytes) => bytes.length + 1
  | .lit _ => 1
  | .nil => 1
  | .ptr d => uptoBulk d + 1
  | .slice elems spare => uptoBulkAll elems + uptoBulkAll spare + 1
  | .agg parts => uptoBulkAll parts + 1
  | .iface _ d => uptoBulk d + 1
  | .map entries => uptoBulkEntries entries + 1
  | .held _ => 1
def uptoBulkAll {H : Type} : List (DataW H) → Nat
  | [] => 0
  | d :: r => uptoBulk d + uptoBulkAll r
def uptoBulkEntries {H : Type} : List (Lit × DataW H) → Nat
  | [] => 0
  | x :: r => uptoBulkEntry x + uptoBulkEntries r
def uptoBulkEntry {H : Type} : Lit × DataW H → Nat
  | (.string bytes, d) => bytes.length + uptoBulk d + 1
  | (_, d) => uptoBulk d + 1
 end
def uptoSmall : (H : Type) → List (DataW H) → Bool := fun _ ds => decide (uptoBulkAll ds ≤ 1048576)
def OpenSpec.upto (s : _root_.Go.ChangeSpec) : _root_.Go.OpenSpec := { _root_.Go.OpenSpec.ofChange s with cond := some uptoSmall }

/-- 'dumbwaiterlaw15.PolicyOne', WHERE WHAT IT READS IS OF BULK AT MOST 1048576: true; the input reads as it did. -/
def policyOneUptoRow : OpenClaim := { program := "ytcnldkkdommmdaa", sum := "861d62ff13d0844181d224dca8fd17caed6b26341a86a78eb3b99ebcd0b8eb3c", func := "dumbwaiter/dumbwaiterlaw15.PolicyOne", spec := "policyOne", inPlace := ["math.Float64bits"], apart := false, narrowed := true }
def PolicyOneUptoSaid : Prop := policyOneUptoRow.holds Try.pinned (OpenSpec.upto policyOneSpec)

/-- 'dumbwaiterlaw15.PolicyNil', WHERE WHAT IT READS IS OF BULK AT MOST 1048576: true; the input reads as it did. -/
def policyNilUptoRow : OpenClaim := { program := "ytcnldkkdommmdaa", sum := "861d62ff13d0844181d224dca8fd17caed6b26341a86a78eb3b99ebcd0b8eb3c", func := "dumbwaiter/dumbwaiterlaw15.PolicyNil", spec := "policyNil", apart := false, narrowed := true }
def PolicyNilUptoSaid : Prop := policyNilUptoRow.holds Try.pinned (OpenSpec.upto policyNilSpec)

/-- 'dumbwaiterlaw15.PolicyPlays', WHERE WHAT IT READS IS OF BULK AT MOST 1048576: true; the input reads as it did. -/
def policyPlaysUptoRow : OpenClaim := { program := "ytcnldkkdommmdaa", sum := "861d62ff13d0844181d224dca8fd17caed6b26341a86a78eb3b99ebcd0b8eb3c", func := "dumbwaiter/dumbwaiterlaw15.PolicyPlays", spec := "policyPlays", inPlace := ["math.Float64bits"], apart := false, narrowed := true }
def PolicyPlaysUptoSaid : Prop := policyPlaysUptoRow.holds Try.pinned (OpenSpec.upto policyPlaysSpec)

/-- 'dumbwaiterlaw15.PolicyAllows', WHERE WHAT IT READS IS OF BULK AT MOST 1048576: true; the input reads as it did. -/
def policyAllowsUptoRow : OpenClaim := { program := "ytcnldkkdommmdaa", sum := "861d62ff13d0844181d224dca8fd17caed6b26341a86a78eb3b99ebcd0b8eb3c", func := "dumbwaiter/dumbwaiterlaw15.PolicyAllows", spec := "policyAllows", inPlace := ["math.Float64bits"], apart := false, narrowed := true }
def PolicyAllowsUptoSaid : Prop := policyAllowsUptoRow.holds Try.pinned (OpenSpec.upto policyAllowsSpec)

/-- 'dumbwaiterlaw15.PolicyBytes', WHERE WHAT IT READS IS OF BULK AT MOST 1048576: true; the input reads as it did. -/
def policyBytesUptoRow : OpenClaim := { program := "ytcnldkkdommmdaa", sum := "861d62ff13d0844181d224dca8fd17caed6b26341a86a78eb3b99ebcd0b8eb3c", func := "dumbwaiter/dumbwaiterlaw15.PolicyBytes", spec := "policyBytes", inPlace := ["math.Float64bits", "math.Float64frombits"], apart := false, narrowed := true }
def PolicyBytesUptoSaid : Prop := policyBytesUptoRow.holds Try.pinned (OpenSpec.upto policyBytesSpec)

end Rows
end Go.Proofs.Ytcnldkkdommmdaa
