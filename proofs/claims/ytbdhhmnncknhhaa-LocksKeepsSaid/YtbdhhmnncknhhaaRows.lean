/-
  No cell of these rows narrows 'for every input' (looked for: loops, veiled, ifaces, maps, wideKeys, modest, calm, conditions, laid).
  DERIVED. THE GIVEN ROWS OF THIS SEAT. 6 by the template 'for every input the law returns true; each argument reads behind the call as it read before'; 0 by the template 'total and deterministic' (their statements: YtbdhhmnncknhhaaTotals.lean).
  GIVEN WITH THE SEED: the statements are not yours to turn. If you find one false, say at which input.
  Laid BY PROGRAM, IN A SANDBOX (cutbox-rows.mjs): the forced cells as the released guide's own fill.sh prints them over the translation ed79f8ff0fa17c14… (all of the seat's roots in one cut). By AI agents, Wed Nov 11 2026. No macro, syntax, notation, axiom, sorry.
-/
import Derived.Test.YtbdhhmnncknhhaaChecked
import GoSem.Claim
import GoSem.ClaimJoined
import GoSem.ClaimMapViews
import Derived.JoinedTies
import Derived.KernelRfl
namespace Go.Proofs.Ytbdhhmnncknhhaa
/- THE CELL 'sum', in the pinned program and in every row, IS THE sha256 OF THE DUMP (.gsa) THAT YtbdhhmnncknhhaaProg.lean LOADS. Nothing in Lean hashes anything: it is a label: what it is worth is what the hold of that sum in a sandbox is worth. -/
noncomputable def Try.pinned : Pinned := { name := "ytbdhhmnncknhhaa", sum := "ed79f8ff0fa17c1487f9cd36fcc794888077bef8f8bb91356d1cf6f860eaec77", checked := Try.checked }
namespace Rows
def none {H : Type} : Left H := { results := [], args := [] }

/-- 'dumbwaiterlaw12.LocksApart': WHATEVER THE INPUT: true; the input reads as it did. -/
def locksApartSpec : ChangeSpec := { name := "locksApart", fn := fun _ => fun
  | [d] => { results := [.lit (.bool true)], args := [d] }
  | _ => none }
def locksApartRow : OpenClaim := { program := "ytbdhhmnncknhhaa", sum := "ed79f8ff0fa17c1487f9cd36fcc794888077bef8f8bb91356d1cf6f860eaec77", func := "dumbwaiter/dumbwaiterlaw12.LocksApart", spec := "locksApart", inPlace := ["math.Float64bits", "slices.overlaps[dumbwaiter/api.Hold]"], unfollowed := true, recurses := true, apart := false }
def LocksApartSaid : Prop := locksApartRow.holds Try.pinned (OpenSpec.ofChange locksApartSpec)

/-- ITS FALSE NEIGHBOUR: 'it returns false'. Refute it at one input. -/
def locksApartWrong : ChangeSpec := { name := "locksApart", fn := fun _ => fun
  | [d] => { results := [.lit (.bool false)], args := [d] }
  | _ => none }
def LocksApartWrongFalsely : Prop := locksApartRow.holds Try.pinned (OpenSpec.ofChange locksApartWrong)

/-- 'dumbwaiterlaw12.LocksMeet': WHATEVER THE INPUT: true; the input reads as it did. -/
def locksMeetSpec : ChangeSpec := { name := "locksMeet", fn := fun _ => fun
  | [d1, d2, d3] => { results := [.lit (.bool true)], args := [d1, d2, d3] }
  | _ => none }
def locksMeetRow : OpenClaim := { program := "ytbdhhmnncknhhaa", sum := "ed79f8ff0fa17c1487f9cd36fcc794888077bef8f8bb91356d1cf6f860eaec77", func := "dumbwaiter/dumbwaiterlaw12.LocksMeet", spec := "locksMeet", inPlace := ["math.Float64bits", "slices.overlaps[dumbwaiter/api.Hold]"], unfollowed := true, recurses := true, apart := false }
def LocksMeetSaid : Prop := locksMeetRow.holds Try.pinned (OpenSpec.ofChange locksMeetSpec)

/-- ITS FALSE NEIGHBOUR: 'it returns false'. Refute it at one input. -/
def locksMeetWrong : ChangeSpec := { name := "locksMeet", fn := fun _ => fun
  | [d1, d2, d3] => { results := [.lit (.bool false)], args := [d1, d2, d3] }
  | _ => none }
def LocksMeetWrongFalsely : Prop := locksMeetRow.holds Try.pinned (OpenSpec.ofChange locksMeetWrong)

/-- 'dumbwaiterlaw12.LocksPlays': WHATEVER THE INPUT: true; the input reads as it did. -/
def locksPlaysSpec : ChangeSpec := { name := "locksPlays", fn := fun _ => fun
  | [d] => { results := [.lit (.bool true)], args := [d] }
  | _ => none }
def locksPlaysRow : OpenClaim := { program := "ytbdhhmnncknhhaa", sum := "ed79f8ff0fa17c1487f9cd36fcc794888077bef8f8bb91356d1cf6f860eaec77", func := "dumbwaiter/dumbwaiterlaw12.LocksPlays", spec := "locksPlays", inPlace := ["math.Float64bits", "slices.overlaps[dumbwaiter/api.Hold]"], unfollowed := true, recurses := true, apart := false }
def LocksPlaysSaid : Prop := locksPlaysRow.holds Try.pinned (OpenSpec.ofChange locksPlaysSpec)

/-- ITS FALSE NEIGHBOUR: 'it returns false'. Refute it at one input. -/
def locksPlaysWrong : ChangeSpec := { name := "locksPlays", fn := fun _ => fun
  | [d] => { results := [.lit (.bool false)], args := [d] }
  | _ => none }
def LocksPlaysWrongFalsely : Prop := locksPlaysRow.holds Try.pinned (OpenSpec.ofChange locksPlaysWrong)

/-- 'dumbwaiterlaw12.LocksKeeps': WHATEVER THE INPUT: true; the input reads as it did. -/
def locksKeepsSpec : ChangeSpec := { name := "locksKeeps", fn := fun _ => fun
  | [d1, d2, d3] => { results := [.lit (.bool true)], args := [d1, d2, d3] }
  | _ => none }
def locksKeepsRow : OpenClaim := { program := "ytbdhhmnncknhhaa", sum := "ed79f8ff0fa17c1487f9cd36fcc794888077bef8f8bb91356d1cf6f860eaec77", func := "dumbwaiter/dumbwaiterlaw12.LocksKeeps", spec := "locksKeeps", inPlace := ["math.Float64bits", "slices.overlaps[dumbwaiter/api.Hold]"], unfollowed := true, recurses := true, apart := false }
def LocksKeepsSaid : Prop := locksKeepsRow.holds Try.pinned (OpenSpec.ofChange locksKeepsSpec)

/-- ITS FALSE NEIGHBOUR: 'it returns false'. Refute it at one input. -/
def locksKeepsWrong : ChangeSpec := { name := "locksKeeps", fn := fun _ => fun
  | [d1, d2, d3] => { results := [.lit (.bool false)], args := [d1, d2, d3] }
  | _ => none }
def LocksKeepsWrongFalsely : Prop := locksKeepsRow.holds Try.pinned (OpenSpec.ofChange locksKeepsWrong)

/-- 'dumbwaiterlaw12.LocksJunk': WHATEVER THE INPUT: true; the input reads as it did. -/
def locksJunkSpec : ChangeSpec := { name := "locksJunk", fn := fun _ => fun
  | [d1, d2, d3, d4] => { results := [.lit (.bool true)], args := [d1, d2, d3, d4] }
  | _ => none }
def locksJunkRow : OpenClaim := { program := "ytbdhhmnncknhhaa", sum := "ed79f8ff0fa17c1487f9cd36fcc794888077bef8f8bb91356d1cf6f860eaec77", func := "dumbwaiter/dumbwaiterlaw12.LocksJunk", spec := "locksJunk", inPlace := ["math.Float64bits", "slices.overlaps[dumbwaiter/api.Hold]", "math.Float64frombits"], unfollowed := true, recurses := true, apart := false }
def LocksJunkSaid : Prop := locksJunkRow.holds Try.pinned (OpenSpec.ofChange locksJunkSpec)

/-- ITS FALSE NEIGHBOUR: 'it returns false'. Refute it at one input. -/
def locksJunkWrong : ChangeSpec := { name := "locksJunk", fn := fun _ => fun
  | [d1, d2, d3, d4] => { results := [.lit (.bool false)], args := [d1, d2, d3, d4] }
  | _ => none }
def LocksJunkWrongFalsely : Prop := locksJunkRow.holds Try.pinned (OpenSpec.ofChange locksJunkWrong)

/-- 'dumbwaiterlaw12.LocksBytes': WHATEVER THE INPUT: true; the input reads as it did. -/
def locksBytesSpec : ChangeSpec := { name := "locksBytes", fn := fun _ => fun
  | [d1, d2] => { results := [.lit (.bool true)], args := [d1, d2] }
  | _ => none }
def locksBytesRow : OpenClaim := { program := "ytbdhhmnncknhhaa", sum := "ed79f8ff0fa17c1487f9cd36fcc794888077bef8f8bb91356d1cf6f860eaec77", func := "dumbwaiter/dumbwaiterlaw12.LocksBytes", spec := "locksBytes", inPlace := ["math.Float64bits", "slices.overlaps[dumbwaiter/api.Hold]", "math.Float64frombits"], unfollowed := true, recurses := true, apart := false }
def LocksBytesSaid : Prop := locksBytesRow.holds Try.pinned (OpenSpec.ofChange locksBytesSpec)

/-- ITS FALSE NEIGHBOUR: 'it returns false'. Refute it at one input. -/
def locksBytesWrong : ChangeSpec := { name := "locksBytes", fn := fun _ => fun
  | [d1, d2] => { results := [.lit (.bool false)], args := [d1, d2] }
  | _ => none }
def LocksBytesWrongFalsely : Prop := locksBytesRow.holds Try.pinned (OpenSpec.ofChange locksBytesWrong)

/- THE SECOND FORM. 'bulk': how many values and letters a reading holds, each counted each time it is reached (what is shared counts as often as it is met; a slice's spare places count too). A statement '..UptoSaid' is the law's where the arguments, and the package variables that the reading takes, are together of bulk at most 1048576: NARROWER than '..Said'. Prove '..Said' where nothing that the law and all that it calls make is longer than what came in: it says more and counts as full. Else prove '..UptoSaid'. A law counts once. -/
mutual
def uptoBulk {H : Type} : DataW H → Nat
  | .lit (.string bytes) => bytes.length + 1
  | .lit _ => 1
  | .nil => 1
  | .ptr d => uptoBulk d + 1
  | .slice elems spare => uptoBulkAll elems + uptoBulkAll spare + 1
  | .agg parts => uptoBulkAll parts + 1
  | .iface _ d => uptoBulk d + 1
  | .map entries => uptoBulkEntries entries + 1
  | .held _ => 1
def uptoBulkAll {H : Type} : List (DataW H) → Nat
  | [] => 0
  | d :: r => uptoBulk d + uptoBulkAll r
def uptoBulkEntries {H : Type} : List (Lit × DataW H) → Nat
  | [] => 0
  | x :: r => uptoBulkEntry x + uptoBulkEntries r
def uptoBulkEntry {H : Type} : Lit × DataW H → Nat
  | (.string bytes, d) => bytes.length + uptoBulk d + 1
  | (_, d) => uptoBulk d + 1
 end
def uptoSmall : (H : Type) → List (DataW H) → Bool := fun _ ds => decide (uptoBulkAll ds ≤ 1048576)
def OpenSpec.upto (s : _root_.Go.ChangeSpec) : _root_.Go.OpenSpec := { _root_.Go.OpenSpec.ofChange s with cond := some uptoSmall }

/-- 'dumbwaiterlaw12.LocksApart', WHERE WHAT IT READS IS OF BULK AT MOST 1048576: true; the input reads as it did. -/
def locksApartUptoRow : OpenClaim := { program := "ytbdhhmnncknhhaa", sum := "ed79f8ff0fa17c1487f9cd36fcc794888077bef8f8bb91356d1cf6f860eaec77", func := "dumbwaiter/dumbwaiterlaw12.LocksApart", spec := "locksApart", inPlace := ["math.Float64bits", "slices.overlaps[dumbwaiter/api.Hold]"], unfollowed := true, recurses := true, apart := false, narrowed := true }
def LocksApartUptoSaid : Prop := locksApartUptoRow.holds Try.pinned (OpenSpec.upto locksApartSpec)

/-- 'dumbwaiterlaw12.LocksMeet', WHERE WHAT IT READS IS OF BULK AT MOST 1048576: true; the input reads as it did. -/
def locksMeetUptoRow : OpenClaim := { program := "ytbdhhmnncknhhaa", sum := "ed79f8ff0fa17c1487f9cd36fcc794888077bef8f8bb91356d1cf6f860eaec77", func := "dumbwaiter/dumbwaiterlaw12.LocksMeet", spec := "locksMeet", inPlace := ["math.Float64bits", "slices.overlaps[dumbwaiter/api.Hold]"], unfollowed := true, recurses := true, apart := false, narrowed := true }
def LocksMeetUptoSaid : Prop := locksMeetUptoRow.holds Try.pinned (OpenSpec.upto locksMeetSpec)

/-- 'dumbwaiterlaw12.LocksPlays', WHERE WHAT IT READS IS OF BULK AT MOST 1048576: true; the input reads as it did. -/
def locksPlaysUptoRow : OpenClaim := { program := "ytbdhhmnncknhhaa", sum := "ed79f8ff0fa17c1487f9cd36fcc794888077bef8f8bb91356d1cf6f860eaec77", func := "dumbwaiter/dumbwaiterlaw12.LocksPlays", spec := "locksPlays", inPlace := ["math.Float64bits", "slices.overlaps[dumbwaiter/api.Hold]"], unfollowed := true, recurses := true, apart := false, narrowed := true }
def LocksPlaysUptoSaid : Prop := locksPlaysUptoRow.holds Try.pinned (OpenSpec.upto locksPlaysSpec)

/-- 'dumbwaiterlaw12.LocksKeeps', WHERE WHAT IT READS IS OF BULK AT MOST 1048576: true; the input reads as it did. -/
def locksKeepsUptoRow : OpenClaim := { program := "ytbdhhmnncknhhaa", sum := "ed79f8ff0fa17c1487f9cd36fcc794888077bef8f8bb91356d1cf6f860eaec77", func := "dumbwaiter/dumbwaiterlaw12.LocksKeeps", spec := "locksKeeps", inPlace := ["math.Float64bits", "slices.overlaps[dumbwaiter/api.Hold]"], unfollowed := true, recurses := true, apart := false, narrowed := true }
def LocksKeepsUptoSaid : Prop := locksKeepsUptoRow.holds Try.pinned (OpenSpec.upto locksKeepsSpec)

/-- 'dumbwaiterlaw12.LocksJunk', WHERE WHAT IT READS IS OF BULK AT MOST 1048576: true; the input reads as it did. -/
def locksJunkUptoRow : OpenClaim := { program := "ytbdhhmnncknhhaa", sum := "ed79f8ff0fa17c1487f9cd36fcc794888077bef8f8bb91356d1cf6f860eaec77", func := "dumbwaiter/dumbwaiterlaw12.LocksJunk", spec := "locksJunk", inPlace := ["math.Float64bits", "slices.overlaps[dumbwaiter/api.Hold]", "math.Float64frombits"], unfollowed := true, recurses := true, apart := false, narrowed := true }
def LocksJunkUptoSaid : Prop := locksJunkUptoRow.holds Try.pinned (OpenSpec.upto locksJunkSpec)

/-- 'dumbwaiterlaw12.LocksBytes', WHERE WHAT IT READS IS OF BULK AT MOST 1048576: true; the input reads as it did. -/
def locksBytesUptoRow : OpenClaim := { program := "ytbdhhmnncknhhaa", sum := "ed79f8ff0fa17c1487f9cd36fcc794888077bef8f8bb91356d1cf6f860eaec77", func := "dumbwaiter/dumbwaiterlaw12.LocksBytes", spec := "locksBytes", inPlace := ["math.Float64bits", "slices.overlaps[dumbwaiter/api.Hold]", "math.Float64frombits"], unfollowed := true, recurses := true, apart := false, narrowed := true }
def LocksBytesUptoSaid : Prop := locksBytesUptoRow.holds Try.pinned (OpenSpec.upto locksBytesSpec)

end Rows
end Go.Proofs.Ytbdhhmnncknhhaa
