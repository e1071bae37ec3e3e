/-
  No cell of these rows narrows 'for every input' (looked for: loops, veiled, ifaces, maps, wideKeys, modest, calm, conditions, laid).
  DERIVED. THE GIVEN ROWS OF THIS SEAT. 4 by the template 'for every input the law returns true; each argument reads behind the call as it read before'; 0 by the template 'total and deterministic' (their statements: YtkfifhkjdibadaaTotals.lean).
  GIVEN WITH THE SEED: the statements are not yours to turn. If you find one false, say at which input.
  Laid BY PROGRAM, IN A SANDBOX (cutbox-rows.mjs): the forced cells as the released guide's own fill.sh prints them over the translation 5ef89a408cec15b2… (all of the seat's roots in one cut). By AI agents, Wed Nov 11 2026. No macro, syntax, notation, axiom, sorry.
-/
import Derived.Test.YtkfifhkjdibadaaChecked
import GoSem.Claim
import GoSem.ClaimJoined
import GoSem.ClaimMapViews
import Derived.JoinedTies
import Derived.KernelRfl
namespace Go.Proofs.Ytkfifhkjdibadaa
/- THE CELL 'sum', in the pinned program and in every row, IS THE sha256 OF THE DUMP (.gsa) THAT YtkfifhkjdibadaaProg.lean LOADS. Nothing in Lean hashes anything: it is a label: what it is worth is what the hold of that sum in a sandbox is worth. -/
noncomputable def Try.pinned : Pinned := { name := "ytkfifhkjdibadaa", sum := "5ef89a408cec15b221b3c91148ef7e0ffd1beee880b52c900f2b01d62eb9fbac", checked := Try.checked }
namespace Rows
def none {H : Type} : Left H := { results := [], args := [] }

/-- 'dumbwaiterlaw14.SessionPlays': WHATEVER THE INPUT: true; the input reads as it did. -/
def sessionPlaysSpec : ChangeSpec := { name := "sessionPlays", fn := fun _ => fun
  | [d] => { results := [.lit (.bool true)], args := [d] }
  | _ => none }
def sessionPlaysRow : OpenClaim := { program := "ytkfifhkjdibadaa", sum := "5ef89a408cec15b221b3c91148ef7e0ffd1beee880b52c900f2b01d62eb9fbac", func := "dumbwaiter/dumbwaiterlaw14.SessionPlays", spec := "sessionPlays", inPlace := ["slices.overlaps[dumbwaiter/session.row]", "math.Float64bits"], unfollowed := true, recurses := true, apart := false }
def SessionPlaysSaid : Prop := sessionPlaysRow.holds Try.pinned (OpenSpec.ofChange sessionPlaysSpec)

/-- ITS FALSE NEIGHBOUR: 'it returns false'. Refute it at one input. -/
def sessionPlaysWrong : ChangeSpec := { name := "sessionPlays", fn := fun _ => fun
  | [d] => { results := [.lit (.bool false)], args := [d] }
  | _ => none }
def SessionPlaysWrongFalsely : Prop := sessionPlaysRow.holds Try.pinned (OpenSpec.ofChange sessionPlaysWrong)

/-- 'dumbwaiterlaw14.SessionRaw': WHATEVER THE INPUT: true; the input reads as it did. -/
def sessionRawSpec : ChangeSpec := { name := "sessionRaw", fn := fun _ => fun
  | [d1, d2, d3, d4, d5, d6] => { results := [.lit (.bool true)], args := [d1, d2, d3, d4, d5, d6] }
  | _ => none }
def sessionRawRow : OpenClaim := { program := "ytkfifhkjdibadaa", sum := "5ef89a408cec15b221b3c91148ef7e0ffd1beee880b52c900f2b01d62eb9fbac", func := "dumbwaiter/dumbwaiterlaw14.SessionRaw", spec := "sessionRaw", inPlace := ["slices.overlaps[dumbwaiter/session.row]", "math.Float64bits"], unfollowed := true, recurses := true, apart := false }
def SessionRawSaid : Prop := sessionRawRow.holds Try.pinned (OpenSpec.ofChange sessionRawSpec)

/-- ITS FALSE NEIGHBOUR: 'it returns false'. Refute it at one input. -/
def sessionRawWrong : ChangeSpec := { name := "sessionRaw", fn := fun _ => fun
  | [d1, d2, d3, d4, d5, d6] => { results := [.lit (.bool false)], args := [d1, d2, d3, d4, d5, d6] }
  | _ => none }
def SessionRawWrongFalsely : Prop := sessionRawRow.holds Try.pinned (OpenSpec.ofChange sessionRawWrong)

/-- 'dumbwaiterlaw14.SessionJunk': WHATEVER THE INPUT: true; the input reads as it did. -/
def sessionJunkSpec : ChangeSpec := { name := "sessionJunk", fn := fun _ => fun
  | [d1, d2, d3, d4] => { results := [.lit (.bool true)], args := [d1, d2, d3, d4] }
  | _ => none }
def sessionJunkRow : OpenClaim := { program := "ytkfifhkjdibadaa", sum := "5ef89a408cec15b221b3c91148ef7e0ffd1beee880b52c900f2b01d62eb9fbac", func := "dumbwaiter/dumbwaiterlaw14.SessionJunk", spec := "sessionJunk", inPlace := ["slices.overlaps[dumbwaiter/session.row]", "math.Float64frombits", "math.Float64bits"], unfollowed := true, recurses := true, apart := false }
def SessionJunkSaid : Prop := sessionJunkRow.holds Try.pinned (OpenSpec.ofChange sessionJunkSpec)

/-- ITS FALSE NEIGHBOUR: 'it returns false'. Refute it at one input. -/
def sessionJunkWrong : ChangeSpec := { name := "sessionJunk", fn := fun _ => fun
  | [d1, d2, d3, d4] => { results := [.lit (.bool false)], args := [d1, d2, d3, d4] }
  | _ => none }
def SessionJunkWrongFalsely : Prop := sessionJunkRow.holds Try.pinned (OpenSpec.ofChange sessionJunkWrong)

/-- 'dumbwaiterlaw14.SessionBytes': WHATEVER THE INPUT: true; the input reads as it did. -/
def sessionBytesSpec : ChangeSpec := { name := "sessionBytes", fn := fun _ => fun
  | [d] => { results := [.lit (.bool true)], args := [d] }
  | _ => none }
def sessionBytesRow : OpenClaim := { program := "ytkfifhkjdibadaa", sum := "5ef89a408cec15b221b3c91148ef7e0ffd1beee880b52c900f2b01d62eb9fbac", func := "dumbwaiter/dumbwaiterlaw14.SessionBytes", spec := "sessionBytes", inPlace := ["slices.overlaps[dumbwaiter/session.row]", "math.Float64bits", "math.Float64frombits"], unfollowed := true, recurses := true, apart := false }
def SessionBytesSaid : Prop := sessionBytesRow.holds Try.pinned (OpenSpec.ofChange sessionBytesSpec)

/-- ITS FALSE NEIGHBOUR: 'it returns false'. Refute it at one input. -/
def sessionBytesWrong : ChangeSpec := { name := "sessionBytes", fn := fun _ => fun
  | [d] => { results := [.lit (.bool false)], args := [d] }
  | _ => none }
def SessionBytesWrongFalsely : Prop := sessionBytesRow.holds Try.pinned (OpenSpec.ofChange sessionBytesWrong)

/- THE SECOND FORM. 'bulk': how many values and letters a reading holds, each counted each time it is reached (what is shared counts as often as it is met; a slice's spare places count too). A statement '..UptoSaid' is the law's where the arguments, and the package variables that the reading takes, are together of bulk at most 1048576: NARROWER than '..Said'. Prove '..Said' where nothing that the law and all that it calls make is longer than what came in: it says more and counts as full. Else prove '..UptoSaid'. A law counts once. -/
mutual
def uptoBulk {H : Type} : DataW H → Nat
  | .lit (.string bytes) => bytes.length + 1
  | .lit _ => 1
  | .nil => 1
  | .ptr d => uptoBulk d + 1
  | .slice elems spare => uptoBulkAll elems + uptoBulkAll spare + 1
  | .agg parts => uptoBulkAll parts + 1
  | .iface _ d => uptoBulk d + 1
  | .map entries => uptoBulkEntries entries + 1
  | .held _ => 1
def uptoBulkAll {H : Type} : List (DataW H) → Nat
  | [] => 0
  | d :: r => uptoBulk d + uptoBulkAll r
def uptoBulkEntries {H : Type} : List (Lit × DataW H) → Nat
  | [] => 0
  | x :: r => uptoBulkEntry x + uptoBulkEntries r
def uptoBulkEntry {H : Type} : Lit × DataW H → Nat
  | (.string bytes, d) => bytes.length + uptoBulk d + 1
  | (_, d) => uptoBulk d + 1
 end
def uptoSmall : (H : Type) → List (DataW H) → Bool := fun _ ds => decide (uptoBulkAll ds ≤ 1048576)
def OpenSpec.upto (s : _root_.Go.ChangeSpec) : _root_.Go.OpenSpec := { _root_.Go.OpenSpec.ofChange s with cond := some uptoSmall }

/-- 'dumbwaiterlaw14.SessionPlays', WHERE WHAT IT READS IS OF BULK AT MOST 1048576: true; the input reads as it did. -/
def sessionPlaysUptoRow : OpenClaim := { program := "ytkfifhkjdibadaa", sum := "5ef89a408cec15b221b3c91148ef7e0ffd1beee880b52c900f2b01d62eb9fbac", func := "dumbwaiter/dumbwaiterlaw14.SessionPlays", spec := "sessionPlays", inPlace := ["slices.overlaps[dumbwaiter/session.row]", "math.Float64bits"], unfollowed := true, recurses := true, apart := false, narrowed := true }
def SessionPlaysUptoSaid : Prop := sessionPlaysUptoRow.holds Try.pinned (OpenSpec.upto sessionPlaysSpec)

/-- 'dumbwaiterlaw14.SessionRaw', WHERE WHAT IT READS IS OF BULK AT MOST 1048576: true; the input reads as it did. -/
def sessionRawUptoRow : OpenClaim := { program := "ytkfifhkjdibadaa", sum := "5ef89a408cec15b221b3c91148ef7e0ffd1beee880b52c900f2b01d62eb9fbac", func := "dumbwaiter/dumbwaiterlaw14.SessionRaw", spec := "sessionRaw", inPlace := ["slices.overlaps[dumbwaiter/session.row]", "math.Float64bits"], unfollowed := true, recurses := true, apart := false, narrowed := true }
def SessionRawUptoSaid : Prop := sessionRawUptoRow.holds Try.pinned (OpenSpec.upto sessionRawSpec)

/-- 'dumbwaiterlaw14.SessionJunk', WHERE WHAT IT READS IS OF BULK AT MOST 1048576: true; the input reads as it did. -/
def sessionJunkUptoRow : OpenClaim := { program := "ytkfifhkjdibadaa", sum := "5ef89a408cec15b221b3c91148ef7e0ffd1beee880b52c900f2b01d62eb9fbac", func := "dumbwaiter/dumbwaiterlaw14.SessionJunk", spec := "sessionJunk", inPlace := ["slices.overlaps[dumbwaiter/session.row]", "math.Float64frombits", "math.Float64bits"], unfollowed := true, recurses := true, apart := false, narrowed := true }
def SessionJunkUptoSaid : Prop := sessionJunkUptoRow.holds Try.pinned (OpenSpec.upto sessionJunkSpec)

/-- 'dumbwaiterlaw14.SessionBytes', WHERE WHAT IT READS IS OF BULK AT MOST 1048576: true; the input reads as it did. -/
def sessionBytesUptoRow : OpenClaim := { program := "ytkfifhkjdibadaa", sum := "5ef89a408cec15b221b3c91148ef7e0ffd1beee880b52c900f2b01d62eb9fbac", func := "dumbwaiter/dumbwaiterlaw14.SessionBytes", spec := "sessionBytes", inPlace := ["slices.overlaps[dumbwaiter/session.row]", "math.Float64bits", "math.Float64frombits"], unfollowed := true, recurses := true, apart := false, narrowed := true }
def SessionBytesUptoSaid : Prop := sessionBytesUptoRow.holds Try.pinned (OpenSpec.upto sessionBytesSpec)

end Rows
end Go.Proofs.Ytkfifhkjdibadaa
