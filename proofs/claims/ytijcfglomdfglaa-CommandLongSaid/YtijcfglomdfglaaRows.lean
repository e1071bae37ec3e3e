/-
  No cell of these rows narrows 'for every input' (looked for: loops, veiled, ifaces, maps, wideKeys, modest, calm, conditions, laid).
  DERIVED. THE GIVEN ROWS OF THIS SEAT. 5 by the template 'for every input the law returns true; each argument reads behind the call as it read before'; 0 by the template 'total and deterministic' (their statements: YtijcfglomdfglaaTotals.lean).
  GIVEN WITH THE SEED: the statements are not yours to turn. If you find one false, say at which input.
  Laid BY PROGRAM, IN A SANDBOX (cutbox-rows.mjs): the forced cells as the released guide's own fill.sh prints them over the translation 7a1119352f30f851… (all of the seat's roots in one cut). By AI agents, Wed Nov 11 2026. No macro, syntax, notation, axiom, sorry.
-/
import Derived.Test.YtijcfglomdfglaaChecked
import GoSem.Claim
import GoSem.ClaimJoined
import GoSem.ClaimMapViews
import Derived.JoinedTies
import Derived.KernelRfl
namespace Go.Proofs.Ytijcfglomdfglaa
/- THE CELL 'sum', in the pinned program and in every row, IS THE sha256 OF THE DUMP (.gsa) THAT YtijcfglomdfglaaProg.lean LOADS. Nothing in Lean hashes anything: it is a label: what it is worth is what the hold of that sum in a sandbox is worth. -/
noncomputable def Try.pinned : Pinned := { name := "ytijcfglomdfglaa", sum := "7a1119352f30f851438671da74cbbedf8c81eb190891e3cad146da98edf759fc", checked := Try.checked }
namespace Rows
def none {H : Type} : Left H := { results := [], args := [] }

/-- 'dumbwaiterlaw13.CommandApart': WHATEVER THE INPUT: true; the input reads as it did. -/
def commandApartSpec : ChangeSpec := { name := "commandApart", fn := fun _ => fun
  | [d1, d2] => { results := [.lit (.bool true)], args := [d1, d2] }
  | _ => none }
def commandApartRow : OpenClaim := { program := "ytijcfglomdfglaa", sum := "7a1119352f30f851438671da74cbbedf8c81eb190891e3cad146da98edf759fc", func := "dumbwaiter/dumbwaiterlaw13.CommandApart", spec := "commandApart", inPlace := ["math.Float64bits"], unfollowed := true, recurses := true, apart := false }
def CommandApartSaid : Prop := commandApartRow.holds Try.pinned (OpenSpec.ofChange commandApartSpec)

/-- ITS FALSE NEIGHBOUR: 'it returns false'. Refute it at one input. -/
def commandApartWrong : ChangeSpec := { name := "commandApart", fn := fun _ => fun
  | [d1, d2] => { results := [.lit (.bool false)], args := [d1, d2] }
  | _ => none }
def CommandApartWrongFalsely : Prop := commandApartRow.holds Try.pinned (OpenSpec.ofChange commandApartWrong)

/-- 'dumbwaiterlaw13.CommandReplies': WHATEVER THE INPUT: true; the input reads as it did. -/
def commandRepliesSpec : ChangeSpec := { name := "commandReplies", fn := fun _ => fun
  | [d1, d2] => { results := [.lit (.bool true)], args := [d1, d2] }
  | _ => none }
def commandRepliesRow : OpenClaim := { program := "ytijcfglomdfglaa", sum := "7a1119352f30f851438671da74cbbedf8c81eb190891e3cad146da98edf759fc", func := "dumbwaiter/dumbwaiterlaw13.CommandReplies", spec := "commandReplies", inPlace := ["math.Float64bits", "math.Float64frombits"], unfollowed := true, recurses := true, apart := false }
def CommandRepliesSaid : Prop := commandRepliesRow.holds Try.pinned (OpenSpec.ofChange commandRepliesSpec)

/-- ITS FALSE NEIGHBOUR: 'it returns false'. Refute it at one input. -/
def commandRepliesWrong : ChangeSpec := { name := "commandReplies", fn := fun _ => fun
  | [d1, d2] => { results := [.lit (.bool false)], args := [d1, d2] }
  | _ => none }
def CommandRepliesWrongFalsely : Prop := commandRepliesRow.holds Try.pinned (OpenSpec.ofChange commandRepliesWrong)

/-- 'dumbwaiterlaw13.CommandJunk': WHATEVER THE INPUT: true; the input reads as it did. -/
def commandJunkSpec : ChangeSpec := { name := "commandJunk", fn := fun _ => fun
  | [d1, d2, d3, d4] => { results := [.lit (.bool true)], args := [d1, d2, d3, d4] }
  | _ => none }
def commandJunkRow : OpenClaim := { program := "ytijcfglomdfglaa", sum := "7a1119352f30f851438671da74cbbedf8c81eb190891e3cad146da98edf759fc", func := "dumbwaiter/dumbwaiterlaw13.CommandJunk", spec := "commandJunk", inPlace := ["math.Float64bits", "math.Float64frombits"], unfollowed := true, recurses := true, apart := false }
def CommandJunkSaid : Prop := commandJunkRow.holds Try.pinned (OpenSpec.ofChange commandJunkSpec)

/-- ITS FALSE NEIGHBOUR: 'it returns false'. Refute it at one input. -/
def commandJunkWrong : ChangeSpec := { name := "commandJunk", fn := fun _ => fun
  | [d1, d2, d3, d4] => { results := [.lit (.bool false)], args := [d1, d2, d3, d4] }
  | _ => none }
def CommandJunkWrongFalsely : Prop := commandJunkRow.holds Try.pinned (OpenSpec.ofChange commandJunkWrong)

/-- 'dumbwaiterlaw13.CommandBytes': WHATEVER THE INPUT: true; the input reads as it did. -/
def commandBytesSpec : ChangeSpec := { name := "commandBytes", fn := fun _ => fun
  | [d] => { results := [.lit (.bool true)], args := [d] }
  | _ => none }
def commandBytesRow : OpenClaim := { program := "ytijcfglomdfglaa", sum := "7a1119352f30f851438671da74cbbedf8c81eb190891e3cad146da98edf759fc", func := "dumbwaiter/dumbwaiterlaw13.CommandBytes", spec := "commandBytes", inPlace := ["math.Float64bits", "math.Float64frombits"], unfollowed := true, recurses := true, apart := false }
def CommandBytesSaid : Prop := commandBytesRow.holds Try.pinned (OpenSpec.ofChange commandBytesSpec)

/-- ITS FALSE NEIGHBOUR: 'it returns false'. Refute it at one input. -/
def commandBytesWrong : ChangeSpec := { name := "commandBytes", fn := fun _ => fun
  | [d] => { results := [.lit (.bool false)], args := [d] }
  | _ => none }
def CommandBytesWrongFalsely : Prop := commandBytesRow.holds Try.pinned (OpenSpec.ofChange commandBytesWrong)

/-- 'dumbwaiterlaw13.CommandLong': WHATEVER THE INPUT: true; the input reads as it did. -/
def commandLongSpec : ChangeSpec := { name := "commandLong", fn := fun _ => fun
  | [d1, d2] => { results := [.lit (.bool true)], args := [d1, d2] }
  | _ => none }
def commandLongRow : OpenClaim := { program := "ytijcfglomdfglaa", sum := "7a1119352f30f851438671da74cbbedf8c81eb190891e3cad146da98edf759fc", func := "dumbwaiter/dumbwaiterlaw13.CommandLong", spec := "commandLong", inPlace := ["math.Float64bits", "math.Float64frombits"], unfollowed := true, recurses := true, apart := false }
def CommandLongSaid : Prop := commandLongRow.holds Try.pinned (OpenSpec.ofChange commandLongSpec)

/-- ITS FALSE NEIGHBOUR: 'it returns false'. Refute it at one input. -/
def commandLongWrong : ChangeSpec := { name := "commandLong", fn := fun _ => fun
  | [d1, d2] => { results := [.lit (.bool false)], args := [d1, d2] }
  | _ => none }
def CommandLongWrongFalsely : Prop := commandLongRow.holds Try.pinned (OpenSpec.ofChange commandLongWrong)

/- THE SECOND FORM. 'bulk': how many values and letters a reading holds, each counted each time it is reached (what is shared counts as often as it is met; a slice's spare places count too). A statement '..UptoSaid' is the law's where the arguments, and the package variables that the reading takes, are together of bulk at most 1048576: NARROWER than '..Said'. Prove '..Said' where nothing that the law and all that it calls make is longer than what came in: it says more and counts as full. Else prove '..UptoSaid'. A law counts once. -/
mutual
def uptoBulk {H : Type} : DataW H → Nat
  | .lit (.string bytes) => bytes.length + 1
  | .lit _ => 1
  | .nil => 1
  | .ptr d => uptoBulk d + 1
  | .slice elems spare => uptoBulkAll elems + uptoBulkAll spare + 1
  | .agg parts => uptoBulkAll parts + 1
  | .iface _ d => uptoBulk d + 1
  | .map entries => uptoBulkEntries entries + 1
  | .held _ => 1
def uptoBulkAll {H : Type} : List (DataW H) → Nat
  | [] => 0
  | d :: r => uptoBulk d + uptoBulkAll r
def uptoBulkEntries {H : Type} : List (Lit × DataW H) → Nat
  | [] => 0
  | x :: r => uptoBulkEntry x + uptoBulkEntries r
def uptoBulkEntry {H : Type} : Lit × DataW H → Nat
  | (.string bytes, d) => bytes.length + uptoBulk d + 1
  | (_, d) => uptoBulk d + 1
 end
def uptoSmall : (H : Type) → List (DataW H) → Bool := fun _ ds => decide (uptoBulkAll ds ≤ 1048576)
def OpenSpec.upto (s : _root_.Go.ChangeSpec) : _root_.Go.OpenSpec := { _root_.Go.OpenSpec.ofChange s with cond := some uptoSmall }

/-- 'dumbwaiterlaw13.CommandApart', WHERE WHAT IT READS IS OF BULK AT MOST 1048576: true; the input reads as it did. -/
def commandApartUptoRow : OpenClaim := { program := "ytijcfglomdfglaa", sum := "7a1119352f30f851438671da74cbbedf8c81eb190891e3cad146da98edf759fc", func := "dumbwaiter/dumbwaiterlaw13.CommandApart", spec := "commandApart", inPlace := ["math.Float64bits"], unfollowed := true, recurses := true, apart := false, narrowed := true }
def CommandApartUptoSaid : Prop := commandApartUptoRow.holds Try.pinned (OpenSpec.upto commandApartSpec)

/-- 'dumbwaiterlaw13.CommandReplies', WHERE WHAT IT READS IS OF BULK AT MOST 1048576: true; the input reads as it did. -/
def commandRepliesUptoRow : OpenClaim := { program := "ytijcfglomdfglaa", sum := "7a1119352f30f851438671da74cbbedf8c81eb190891e3cad146da98edf759fc", func := "dumbwaiter/dumbwaiterlaw13.CommandReplies", spec := "commandReplies", inPlace := ["math.Float64bits", "math.Float64frombits"], unfollowed := true, recurses := true, apart := false, narrowed := true }
def CommandRepliesUptoSaid : Prop := commandRepliesUptoRow.holds Try.pinned (OpenSpec.upto commandRepliesSpec)

/-- 'dumbwaiterlaw13.CommandJunk', WHERE WHAT IT READS IS OF BULK AT MOST 1048576: true; the input reads as it did. -/
def commandJunkUptoRow : OpenClaim := { program := "ytijcfglomdfglaa", sum := "7a1119352f30f851438671da74cbbedf8c81eb190891e3cad146da98edf759fc", func := "dumbwaiter/dumbwaiterlaw13.CommandJunk", spec := "commandJunk", inPlace := ["math.Float64bits", "math.Float64frombits"], unfollowed := true, recurses := true, apart := false, narrowed := true }
def CommandJunkUptoSaid : Prop := commandJunkUptoRow.holds Try.pinned (OpenSpec.upto commandJunkSpec)

/-- 'dumbwaiterlaw13.CommandBytes', WHERE WHAT IT READS IS OF BULK AT MOST 1048576: true; the input reads as it did. -/
def commandBytesUptoRow : OpenClaim := { program := "ytijcfglomdfglaa", sum := "7a1119352f30f851438671da74cbbedf8c81eb190891e3cad146da98edf759fc", func := "dumbwaiter/dumbwaiterlaw13.CommandBytes", spec := "commandBytes", inPlace := ["math.Float64bits", "math.Float64frombits"], unfollowed := true, recurses := true, apart := false, narrowed := true }
def CommandBytesUptoSaid : Prop := commandBytesUptoRow.holds Try.pinned (OpenSpec.upto commandBytesSpec)

/-- 'dumbwaiterlaw13.CommandLong', WHERE WHAT IT READS IS OF BULK AT MOST 1048576: true; the input reads as it did. -/
def commandLongUptoRow : OpenClaim := { program := "ytijcfglomdfglaa", sum := "7a1119352f30f851438671da74cbbedf8c81eb190891e3cad146da98edf759fc", func := "dumbwaiter/dumbwaiterlaw13.CommandLong", spec := "commandLong", inPlace := ["math.Float64bits", "math.Float64frombits"], unfollowed := true, recurses := true, apart := false, narrowed := true }
def CommandLongUptoSaid : Prop := commandLongUptoRow.holds Try.pinned (OpenSpec.upto commandLongSpec)

end Rows
end Go.Proofs.Ytijcfglomdfglaa
