/-
  No cell of these rows narrows 'for every input' (looked for: loops, veiled, ifaces, maps, wideKeys, modest, calm, conditions, laid).
  DERIVED. THE GIVEN ROWS OF THIS SEAT. 6 by the template 'for every input the law returns true; each argument reads behind the call as it read before'; 0 by the template 'total and deterministic' (their statements: YtbdnbohbmgmonaaTotals.lean).
  GIVEN WITH THE SEED: the statements are not yours to turn. If you find one false, say at which input.
  Laid BY PROGRAM, IN A SANDBOX (cutbox-rows.mjs): the forced cells as the released guide's own fill.sh prints them over the translation 3db36af09a2a482d… (all of the seat's roots in one cut). By AI agents, Wed Nov 11 2026. No macro, syntax, notation, axiom, sorry.
-/
import Derived.Test.YtbdnbohbmgmonaaChecked
import GoSem.Claim
import GoSem.ClaimJoined
import GoSem.ClaimMapViews
import Derived.JoinedTies
import Derived.KernelRfl
namespace Go.Proofs.Ytbdnbohbmgmonaa
/- THE CELL 'sum', in the pinned program and in every row, IS THE sha256 OF THE DUMP (.gsa) THAT YtbdnbohbmgmonaaProg.lean LOADS. Nothing in Lean hashes anything: it is a label: what it is worth is what the hold of that sum in a sandbox is worth. -/
noncomputable def Try.pinned : Pinned := { name := "ytbdnbohbmgmonaa", sum := "3db36af09a2a482d7ad2bfc21ca3531d308659db934eefcd884857cccb4c3aa8", checked := Try.checked }
namespace Rows
def none {H : Type} : Left H := { results := [], args := [] }

/-- 'dumbwaiterlaw11.MvccPuts': WHATEVER THE INPUT: true; the input reads as it did. -/
def mvccPutsSpec : ChangeSpec := { name := "mvccPuts", fn := fun _ => fun
  | [d1, d2, d3] => { results := [.lit (.bool true)], args := [d1, d2, d3] }
  | _ => none }
def mvccPutsRow : OpenClaim := { program := "ytbdnbohbmgmonaa", sum := "3db36af09a2a482d7ad2bfc21ca3531d308659db934eefcd884857cccb4c3aa8", func := "dumbwaiter/dumbwaiterlaw11.MvccPuts", spec := "mvccPuts", inPlace := ["math.Float64bits", "slices.overlaps[dumbwaiter/mvcc.row]", "slices.overlaps[dumbwaiter/mvcc.Version]"], unfollowed := true, recurses := true, apart := false }
def MvccPutsSaid : Prop := mvccPutsRow.holds Try.pinned (OpenSpec.ofChange mvccPutsSpec)

/-- ITS FALSE NEIGHBOUR: 'it returns false'. Refute it at one input. -/
def mvccPutsWrong : ChangeSpec := { name := "mvccPuts", fn := fun _ => fun
  | [d1, d2, d3] => { results := [.lit (.bool false)], args := [d1, d2, d3] }
  | _ => none }
def MvccPutsWrongFalsely : Prop := mvccPutsRow.holds Try.pinned (OpenSpec.ofChange mvccPutsWrong)

/-- 'dumbwaiterlaw11.MvccScans': WHATEVER THE INPUT: true; the input reads as it did. -/
def mvccScansSpec : ChangeSpec := { name := "mvccScans", fn := fun _ => fun
  | [d1, d2, d3, d4, d5, d6] => { results := [.lit (.bool true)], args := [d1, d2, d3, d4, d5, d6] }
  | _ => none }
def mvccScansRow : OpenClaim := { program := "ytbdnbohbmgmonaa", sum := "3db36af09a2a482d7ad2bfc21ca3531d308659db934eefcd884857cccb4c3aa8", func := "dumbwaiter/dumbwaiterlaw11.MvccScans", spec := "mvccScans", inPlace := ["math.Float64bits", "slices.overlaps[dumbwaiter/mvcc.row]", "slices.overlaps[dumbwaiter/mvcc.Version]", "math.Float64frombits"], unfollowed := true, recurses := true, apart := false }
def MvccScansSaid : Prop := mvccScansRow.holds Try.pinned (OpenSpec.ofChange mvccScansSpec)

/-- ITS FALSE NEIGHBOUR: 'it returns false'. Refute it at one input. -/
def mvccScansWrong : ChangeSpec := { name := "mvccScans", fn := fun _ => fun
  | [d1, d2, d3, d4, d5, d6] => { results := [.lit (.bool false)], args := [d1, d2, d3, d4, d5, d6] }
  | _ => none }
def MvccScansWrongFalsely : Prop := mvccScansRow.holds Try.pinned (OpenSpec.ofChange mvccScansWrong)

/-- 'dumbwaiterlaw11.MvccTrims': WHATEVER THE INPUT: true; the input reads as it did. -/
def mvccTrimsSpec : ChangeSpec := { name := "mvccTrims", fn := fun _ => fun
  | [d1, d2] => { results := [.lit (.bool true)], args := [d1, d2] }
  | _ => none }
def mvccTrimsRow : OpenClaim := { program := "ytbdnbohbmgmonaa", sum := "3db36af09a2a482d7ad2bfc21ca3531d308659db934eefcd884857cccb4c3aa8", func := "dumbwaiter/dumbwaiterlaw11.MvccTrims", spec := "mvccTrims", inPlace := ["math.Float64bits", "slices.overlaps[dumbwaiter/mvcc.row]", "slices.overlaps[dumbwaiter/mvcc.Version]"], unfollowed := true, recurses := true, apart := false }
def MvccTrimsSaid : Prop := mvccTrimsRow.holds Try.pinned (OpenSpec.ofChange mvccTrimsSpec)

/-- ITS FALSE NEIGHBOUR: 'it returns false'. Refute it at one input. -/
def mvccTrimsWrong : ChangeSpec := { name := "mvccTrims", fn := fun _ => fun
  | [d1, d2] => { results := [.lit (.bool false)], args := [d1, d2] }
  | _ => none }
def MvccTrimsWrongFalsely : Prop := mvccTrimsRow.holds Try.pinned (OpenSpec.ofChange mvccTrimsWrong)

/-- 'dumbwaiterlaw11.MvccKeeps': WHATEVER THE INPUT: true; the input reads as it did. -/
def mvccKeepsSpec : ChangeSpec := { name := "mvccKeeps", fn := fun _ => fun
  | [d1, d2, d3] => { results := [.lit (.bool true)], args := [d1, d2, d3] }
  | _ => none }
def mvccKeepsRow : OpenClaim := { program := "ytbdnbohbmgmonaa", sum := "3db36af09a2a482d7ad2bfc21ca3531d308659db934eefcd884857cccb4c3aa8", func := "dumbwaiter/dumbwaiterlaw11.MvccKeeps", spec := "mvccKeeps", inPlace := ["math.Float64bits", "slices.overlaps[dumbwaiter/mvcc.row]", "slices.overlaps[dumbwaiter/mvcc.Version]", "math.Float64frombits"], unfollowed := true, recurses := true, apart := false }
def MvccKeepsSaid : Prop := mvccKeepsRow.holds Try.pinned (OpenSpec.ofChange mvccKeepsSpec)

/-- ITS FALSE NEIGHBOUR: 'it returns false'. Refute it at one input. -/
def mvccKeepsWrong : ChangeSpec := { name := "mvccKeeps", fn := fun _ => fun
  | [d1, d2, d3] => { results := [.lit (.bool false)], args := [d1, d2, d3] }
  | _ => none }
def MvccKeepsWrongFalsely : Prop := mvccKeepsRow.holds Try.pinned (OpenSpec.ofChange mvccKeepsWrong)

/-- 'dumbwaiterlaw11.MvccJunk': WHATEVER THE INPUT: true; the input reads as it did. -/
def mvccJunkSpec : ChangeSpec := { name := "mvccJunk", fn := fun _ => fun
  | [d1, d2, d3, d4] => { results := [.lit (.bool true)], args := [d1, d2, d3, d4] }
  | _ => none }
def mvccJunkRow : OpenClaim := { program := "ytbdnbohbmgmonaa", sum := "3db36af09a2a482d7ad2bfc21ca3531d308659db934eefcd884857cccb4c3aa8", func := "dumbwaiter/dumbwaiterlaw11.MvccJunk", spec := "mvccJunk", inPlace := ["math.Float64bits", "slices.overlaps[dumbwaiter/mvcc.row]", "slices.overlaps[dumbwaiter/mvcc.Version]", "math.Float64frombits"], unfollowed := true, recurses := true, apart := false }
def MvccJunkSaid : Prop := mvccJunkRow.holds Try.pinned (OpenSpec.ofChange mvccJunkSpec)

/-- ITS FALSE NEIGHBOUR: 'it returns false'. Refute it at one input. -/
def mvccJunkWrong : ChangeSpec := { name := "mvccJunk", fn := fun _ => fun
  | [d1, d2, d3, d4] => { results := [.lit (.bool false)], args := [d1, d2, d3, d4] }
  | _ => none }
def MvccJunkWrongFalsely : Prop := mvccJunkRow.holds Try.pinned (OpenSpec.ofChange mvccJunkWrong)

/-- 'dumbwaiterlaw11.MvccBytes': WHATEVER THE INPUT: true; the input reads as it did. -/
def mvccBytesSpec : ChangeSpec := { name := "mvccBytes", fn := fun _ => fun
  | [d1, d2] => { results := [.lit (.bool true)], args := [d1, d2] }
  | _ => none }
def mvccBytesRow : OpenClaim := { program := "ytbdnbohbmgmonaa", sum := "3db36af09a2a482d7ad2bfc21ca3531d308659db934eefcd884857cccb4c3aa8", func := "dumbwaiter/dumbwaiterlaw11.MvccBytes", spec := "mvccBytes", inPlace := ["math.Float64bits", "slices.overlaps[dumbwaiter/mvcc.row]", "slices.overlaps[dumbwaiter/mvcc.Version]", "math.Float64frombits"], unfollowed := true, recurses := true, apart := false }
def MvccBytesSaid : Prop := mvccBytesRow.holds Try.pinned (OpenSpec.ofChange mvccBytesSpec)

/-- ITS FALSE NEIGHBOUR: 'it returns false'. Refute it at one input. -/
def mvccBytesWrong : ChangeSpec := { name := "mvccBytes", fn := fun _ => fun
  | [d1, d2] => { results := [.lit (.bool false)], args := [d1, d2] }
  | _ => none }
def MvccBytesWrongFalsely : Prop := mvccBytesRow.holds Try.pinned (OpenSpec.ofChange mvccBytesWrong)

/- THE SECOND FORM. 'bulk': how many values and letters a reading holds, each counted each time it is reached (what is shared counts as often as it is met; a slice's spare places count too). A statement '..UptoSaid' is the law's where the arguments, and the package variables that the reading takes, are together of bulk at most 1048576: NARROWER than '..Said'. Prove '..Said' where nothing that the law and all that it calls make is longer than what came in: it says more and counts as full. Else prove '..UptoSaid'. A law counts once. -/
mutual
def uptoBulk {H : Type} : DataW H → Nat
  | .lit (.string bytes) => bytes.length + 1
  | .lit _ => 1
  | .nil => 1
  | .ptr d => uptoBulk d + 1
  | .slice elems spare => uptoBulkAll elems + uptoBulkAll spare + 1
  | .agg parts => uptoBulkAll parts + 1
  | .iface _ d => uptoBulk d + 1
  | .map entries => uptoBulkEntries entries + 1
  | .held _ => 1
def uptoBulkAll {H : Type} : List (DataW H) → Nat
  | [] => 0
  | d :: r => uptoBulk d + uptoBulkAll r
def uptoBulkEntries {H : Type} : List (Lit × DataW H) → Nat
  | [] => 0
  | x :: r => uptoBulkEntry x + uptoBulkEntries r
def uptoBulkEntry {H : Type} : Lit × DataW H → Nat
  | (.string bytes, d) => bytes.length + uptoBulk d + 1
  | (_, d) => uptoBulk d + 1
 end
def uptoSmall : (H : Type) → List (DataW H) → Bool := fun _ ds => decide (uptoBulkAll ds ≤ 1048576)
def OpenSpec.upto (s : _root_.Go.ChangeSpec) : _root_.Go.OpenSpec := { _root_.Go.OpenSpec.ofChange s with cond := some uptoSmall }

/-- 'dumbwaiterlaw11.MvccPuts', WHERE WHAT IT READS IS OF BULK AT MOST 1048576: true; the input reads as it did. -/
def mvccPutsUptoRow : OpenClaim := { program := "ytbdnbohbmgmonaa", sum := "3db36af09a2a482d7ad2bfc21ca3531d308659db934eefcd884857cccb4c3aa8", func := "dumbwaiter/dumbwaiterlaw11.MvccPuts", spec := "mvccPuts", inPlace := ["math.Float64bits", "slices.overlaps[dumbwaiter/mvcc.row]", "slices.overlaps[dumbwaiter/mvcc.Version]"], unfollowed := true, recurses := true, apart := false, narrowed := true }
def MvccPutsUptoSaid : Prop := mvccPutsUptoRow.holds Try.pinned (OpenSpec.upto mvccPutsSpec)

/-- 'dumbwaiterlaw11.MvccScans', WHERE WHAT IT READS IS OF BULK AT MOST 1048576: true; the input reads as it did. -/
def mvccScansUptoRow : OpenClaim := { program := "ytbdnbohbmgmonaa", sum := "3db36af09a2a482d7ad2bfc21ca3531d308659db934eefcd884857cccb4c3aa8", func := "dumbwaiter/dumbwaiterlaw11.MvccScans", spec := "mvccScans", inPlace := ["math.Float64bits", "slices.overlaps[dumbwaiter/mvcc.row]", "slices.overlaps[dumbwaiter/mvcc.Version]", "math.Float64frombits"], unfollowed := true, recurses := true, apart := false, narrowed := true }
def MvccScansUptoSaid : Prop := mvccScansUptoRow.holds Try.pinned (OpenSpec.upto mvccScansSpec)

/-- 'dumbwaiterlaw11.MvccTrims', WHERE WHAT IT READS IS OF BULK AT MOST 1048576: true; the input reads as it did. -/
def mvccTrimsUptoRow : OpenClaim := { program := "ytbdnbohbmgmonaa", sum := "3db36af09a2a482d7ad2bfc21ca3531d308659db934eefcd884857cccb4c3aa8", func := "dumbwaiter/dumbwaiterlaw11.MvccTrims", spec := "mvccTrims", inPlace := ["math.Float64bits", "slices.overlaps[dumbwaiter/mvcc.row]", "slices.overlaps[dumbwaiter/mvcc.Version]"], unfollowed := true, recurses := true, apart := false, narrowed := true }
def MvccTrimsUptoSaid : Prop := mvccTrimsUptoRow.holds Try.pinned (OpenSpec.upto mvccTrimsSpec)

/-- 'dumbwaiterlaw11.MvccKeeps', WHERE WHAT IT READS IS OF BULK AT MOST 1048576: true; the input reads as it did. -/
def mvccKeepsUptoRow : OpenClaim := { program := "ytbdnbohbmgmonaa", sum := "3db36af09a2a482d7ad2bfc21ca3531d308659db934eefcd884857cccb4c3aa8", func := "dumbwaiter/dumbwaiterlaw11.MvccKeeps", spec := "mvccKeeps", inPlace := ["math.Float64bits", "slices.overlaps[dumbwaiter/mvcc.row]", "slices.overlaps[dumbwaiter/mvcc.Version]", "math.Float64frombits"], unfollowed := true, recurses := true, apart := false, narrowed := true }
def MvccKeepsUptoSaid : Prop := mvccKeepsUptoRow.holds Try.pinned (OpenSpec.upto mvccKeepsSpec)

/-- 'dumbwaiterlaw11.MvccJunk', WHERE WHAT IT READS IS OF BULK AT MOST 1048576: true; the input reads as it did. -/
def mvccJunkUptoRow : OpenClaim := { program := "ytbdnbohbmgmonaa", sum := "3db36af09a2a482d7ad2bfc21ca3531d308659db934eefcd884857cccb4c3aa8", func := "dumbwaiter/dumbwaiterlaw11.MvccJunk", spec := "mvccJunk", inPlace := ["math.Float64bits", "slices.overlaps[dumbwaiter/mvcc.row]", "slices.overlaps[dumbwaiter/mvcc.Version]", "math.Float64frombits"], unfollowed := true, recurses := true, apart := false, narrowed := true }
def MvccJunkUptoSaid : Prop := mvccJunkUptoRow.holds Try.pinned (OpenSpec.upto mvccJunkSpec)

/-- 'dumbwaiterlaw11.MvccBytes', WHERE WHAT IT READS IS OF BULK AT MOST 1048576: true; the input reads as it did. -/
def mvccBytesUptoRow : OpenClaim := { program := "ytbdnbohbmgmonaa", sum := "3db36af09a2a482d7ad2bfc21ca3531d308659db934eefcd884857cccb4c3aa8", func := "dumbwaiter/dumbwaiterlaw11.MvccBytes", spec := "mvccBytes", inPlace := ["math.Float64bits", "slices.overlaps[dumbwaiter/mvcc.row]", "slices.overlaps[dumbwaiter/mvcc.Version]", "math.Float64frombits"], unfollowed := true, recurses := true, apart := false, narrowed := true }
def MvccBytesUptoSaid : Prop := mvccBytesUptoRow.holds Try.pinned (OpenSpec.upto mvccBytesSpec)

end Rows
end Go.Proofs.Ytbdnbohbmgmonaa
