/-
  No cell of these rows narrows 'for every input' (looked for: loops, veiled, ifaces, maps, wideKeys, modest, calm, conditions, laid).
  DERIVED. THE GIVEN ROWS OF THIS SEAT. 6 by the template 'for every input the law returns true; each argument reads behind the call as it read before'; 0 by the template 'total and deterministic' (their statements: YtddhkbholbcebaaTotals.lean).
  GIVEN WITH THE SEED: the statements are not yours to turn. If you find one false, say at which input.
  Laid BY PROGRAM, IN A SANDBOX (cutbox-rows.mjs): the forced cells as the released guide's own fill.sh prints them over the translation 1f2dffb3504a6178… (all of the seat's roots in one cut). By AI agents, Wed Nov 11 2026. No macro, syntax, notation, axiom, sorry.
-/
import Derived.Test.YtddhkbholbcebaaChecked
import GoSem.Claim
import GoSem.ClaimJoined
import GoSem.ClaimMapViews
import Derived.JoinedTies
import Derived.KernelRfl
namespace Go.Proofs.Ytddhkbholbcebaa
/- THE CELL 'sum', in the pinned program and in every row, IS THE sha256 OF THE DUMP (.gsa) THAT YtddhkbholbcebaaProg.lean LOADS. Nothing in Lean hashes anything: it is a label: what it is worth is what the hold of that sum in a sandbox is worth. -/
noncomputable def Try.pinned : Pinned := { name := "ytddhkbholbcebaa", sum := "1f2dffb3504a6178ee42c5ce2cafc4419afe38683600b087c3170092d51ef1ca", checked := Try.checked }
namespace Rows
def none {H : Type} : Left H := { results := [], args := [] }

/-- 'dumbwaiterlaw03.LabelLaws': WHATEVER THE INPUT: true; the input reads as it did. -/
def labelLawsSpec : ChangeSpec := { name := "labelLaws", fn := fun _ => fun
  | [d1, d2, d3, d4, d5] => { results := [.lit (.bool true)], args := [d1, d2, d3, d4, d5] }
  | _ => none }
def labelLawsRow : OpenClaim := { program := "ytddhkbholbcebaa", sum := "1f2dffb3504a6178ee42c5ce2cafc4419afe38683600b087c3170092d51ef1ca", func := "dumbwaiter/dumbwaiterlaw03.LabelLaws", spec := "labelLaws", unfollowed := true, recurses := true, apart := false }
def LabelLawsSaid : Prop := labelLawsRow.holds Try.pinned (OpenSpec.ofChange labelLawsSpec)

/-- ITS FALSE NEIGHBOUR: 'it returns false'. Refute it at one input. -/
def labelLawsWrong : ChangeSpec := { name := "labelLaws", fn := fun _ => fun
  | [d1, d2, d3, d4, d5] => { results := [.lit (.bool false)], args := [d1, d2, d3, d4, d5] }
  | _ => none }
def LabelLawsWrongFalsely : Prop := labelLawsRow.holds Try.pinned (OpenSpec.ofChange labelLawsWrong)

/-- 'dumbwaiterlaw03.LabelChecks': WHATEVER THE INPUT: true; the input reads as it did. -/
def labelChecksSpec : ChangeSpec := { name := "labelChecks", fn := fun _ => fun
  | [d] => { results := [.lit (.bool true)], args := [d] }
  | _ => none }
def labelChecksRow : OpenClaim := { program := "ytddhkbholbcebaa", sum := "1f2dffb3504a6178ee42c5ce2cafc4419afe38683600b087c3170092d51ef1ca", func := "dumbwaiter/dumbwaiterlaw03.LabelChecks", spec := "labelChecks", unfollowed := true, recurses := true, apart := false }
def LabelChecksSaid : Prop := labelChecksRow.holds Try.pinned (OpenSpec.ofChange labelChecksSpec)

/-- ITS FALSE NEIGHBOUR: 'it returns false'. Refute it at one input. -/
def labelChecksWrong : ChangeSpec := { name := "labelChecks", fn := fun _ => fun
  | [d] => { results := [.lit (.bool false)], args := [d] }
  | _ => none }
def LabelChecksWrongFalsely : Prop := labelChecksRow.holds Try.pinned (OpenSpec.ofChange labelChecksWrong)

/-- 'dumbwaiterlaw03.LabelOrders': WHATEVER THE INPUT: true; the input reads as it did. -/
def labelOrdersSpec : ChangeSpec := { name := "labelOrders", fn := fun _ => fun
  | [d1, d2] => { results := [.lit (.bool true)], args := [d1, d2] }
  | _ => none }
def labelOrdersRow : OpenClaim := { program := "ytddhkbholbcebaa", sum := "1f2dffb3504a6178ee42c5ce2cafc4419afe38683600b087c3170092d51ef1ca", func := "dumbwaiter/dumbwaiterlaw03.LabelOrders", spec := "labelOrders", unfollowed := true, recurses := true, apart := false }
def LabelOrdersSaid : Prop := labelOrdersRow.holds Try.pinned (OpenSpec.ofChange labelOrdersSpec)

/-- ITS FALSE NEIGHBOUR: 'it returns false'. Refute it at one input. -/
def labelOrdersWrong : ChangeSpec := { name := "labelOrders", fn := fun _ => fun
  | [d1, d2] => { results := [.lit (.bool false)], args := [d1, d2] }
  | _ => none }
def LabelOrdersWrongFalsely : Prop := labelOrdersRow.holds Try.pinned (OpenSpec.ofChange labelOrdersWrong)

/-- 'dumbwaiterlaw03.LabelKnown': WHATEVER THE INPUT: true; the input reads as it did. -/
def labelKnownSpec : ChangeSpec := { name := "labelKnown", fn := fun _ => fun
  | [d] => { results := [.lit (.bool true)], args := [d] }
  | _ => none }
def labelKnownRow : OpenClaim := { program := "ytddhkbholbcebaa", sum := "1f2dffb3504a6178ee42c5ce2cafc4419afe38683600b087c3170092d51ef1ca", func := "dumbwaiter/dumbwaiterlaw03.LabelKnown", spec := "labelKnown", unfollowed := true, recurses := true, apart := false }
def LabelKnownSaid : Prop := labelKnownRow.holds Try.pinned (OpenSpec.ofChange labelKnownSpec)

/-- ITS FALSE NEIGHBOUR: 'it returns false'. Refute it at one input. -/
def labelKnownWrong : ChangeSpec := { name := "labelKnown", fn := fun _ => fun
  | [d] => { results := [.lit (.bool false)], args := [d] }
  | _ => none }
def LabelKnownWrongFalsely : Prop := labelKnownRow.holds Try.pinned (OpenSpec.ofChange labelKnownWrong)

/-- 'dumbwaiterlaw03.LabelKeeps': WHATEVER THE INPUT: true; the input reads as it did. -/
def labelKeepsSpec : ChangeSpec := { name := "labelKeeps", fn := fun _ => fun
  | [d] => { results := [.lit (.bool true)], args := [d] }
  | _ => none }
def labelKeepsRow : OpenClaim := { program := "ytddhkbholbcebaa", sum := "1f2dffb3504a6178ee42c5ce2cafc4419afe38683600b087c3170092d51ef1ca", func := "dumbwaiter/dumbwaiterlaw03.LabelKeeps", spec := "labelKeeps", unfollowed := true, recurses := true, apart := false }
def LabelKeepsSaid : Prop := labelKeepsRow.holds Try.pinned (OpenSpec.ofChange labelKeepsSpec)

/-- ITS FALSE NEIGHBOUR: 'it returns false'. Refute it at one input. -/
def labelKeepsWrong : ChangeSpec := { name := "labelKeeps", fn := fun _ => fun
  | [d] => { results := [.lit (.bool false)], args := [d] }
  | _ => none }
def LabelKeepsWrongFalsely : Prop := labelKeepsRow.holds Try.pinned (OpenSpec.ofChange labelKeepsWrong)

/-- 'dumbwaiterlaw03.LabelNil': WHATEVER THE INPUT: true; the input reads as it did. -/
def labelNilSpec : ChangeSpec := { name := "labelNil", fn := fun _ => fun
  | [d1, d2] => { results := [.lit (.bool true)], args := [d1, d2] }
  | _ => none }
def labelNilRow : OpenClaim := { program := "ytddhkbholbcebaa", sum := "1f2dffb3504a6178ee42c5ce2cafc4419afe38683600b087c3170092d51ef1ca", func := "dumbwaiter/dumbwaiterlaw03.LabelNil", spec := "labelNil", unfollowed := true, recurses := true, apart := false }
def LabelNilSaid : Prop := labelNilRow.holds Try.pinned (OpenSpec.ofChange labelNilSpec)

/-- ITS FALSE NEIGHBOUR: 'it returns false'. Refute it at one input. -/
def labelNilWrong : ChangeSpec := { name := "labelNil", fn := fun _ => fun
  | [d1, d2] => { results := [.lit (.bool false)], args := [d1, d2] }
  | _ => none }
def LabelNilWrongFalsely : Prop := labelNilRow.holds Try.pinned (OpenSpec.ofChange labelNilWrong)

/- THE SECOND FORM. 'bulk': how many values and letters a reading holds, each counted each time it is reached (what is shared counts as often as it is met; a slice's spare places count too). A statement '..UptoSaid' is the law's where the arguments, and the package variables that the reading takes, are together of bulk at most 1048576: NARROWER than '..Said'. Prove '..Said' where nothing that the law and all that it calls make is longer than what came in: it says more and counts as full. Else prove '..UptoSaid'. A law counts once. -/
mutual
def uptoBulk {H : Type} : DataW H → Nat
  | .lit (.string bytes) => bytes.length + 1
  | .lit _ => 1
  | .nil => 1
  | .ptr d => uptoBulk d + 1
  | .slice elems spare => uptoBulkAll elems + uptoBulkAll spare + 1
  | .agg parts => uptoBulkAll parts + 1
  | .iface _ d => uptoBulk d + 1
  | .map entries => uptoBulkEntries entries + 1
  | .held _ => 1
def uptoBulkAll {H : Type} : List (DataW H) → Nat
  | [] => 0
  | d :: r => uptoBulk d + uptoBulkAll r
def uptoBulkEntries {H : Type} : List (Lit × DataW H) → Nat
  | [] => 0
  | x :: r => uptoBulkEntry x + uptoBulkEntries r
def uptoBulkEntry {H : Type} : Lit × DataW H → Nat
  | (.string bytes, d) => bytes.length + uptoBulk d + 1
  | (_, d) => uptoBulk d + 1
 end
def uptoSmall : (H : Type) → List (DataW H) → Bool := fun _ ds => decide (uptoBulkAll ds ≤ 1048576)
def OpenSpec.upto (s : _root_.Go.ChangeSpec) : _root_.Go.OpenSpec := { _root_.Go.OpenSpec.ofChange s with cond := some uptoSmall }

/-- 'dumbwaiterlaw03.LabelLaws', WHERE WHAT IT READS IS OF BULK AT MOST 1048576: true; the input reads as it did. -/
def labelLawsUptoRow : OpenClaim := { program := "ytddhkbholbcebaa", sum := "1f2dffb3504a6178ee42c5ce2cafc4419afe38683600b087c3170092d51ef1ca", func := "dumbwaiter/dumbwaiterlaw03.LabelLaws", spec := "labelLaws", unfollowed := true, recurses := true, apart := false, narrowed := true }
def LabelLawsUptoSaid : Prop := labelLawsUptoRow.holds Try.pinned (OpenSpec.upto labelLawsSpec)

/-- 'dumbwaiterlaw03.LabelChecks', WHERE WHAT IT READS IS OF BULK AT MOST 1048576: true; the input reads as it did. -/
def labelChecksUptoRow : OpenClaim := { program := "ytddhkbholbcebaa", sum := "1f2dffb3504a6178ee42c5ce2cafc4419afe38683600b087c3170092d51ef1ca", func := "dumbwaiter/dumbwaiterlaw03.LabelChecks", spec := "labelChecks", unfollowed := true, recurses := true, apart := false, narrowed := true }
def LabelChecksUptoSaid : Prop := labelChecksUptoRow.holds Try.pinned (OpenSpec.upto labelChecksSpec)

/-- 'dumbwaiterlaw03.LabelOrders', WHERE WHAT IT READS IS OF BULK AT MOST 1048576: true; the input reads as it did. -/
def labelOrdersUptoRow : OpenClaim := { program := "ytddhkbholbcebaa", sum := "1f2dffb3504a6178ee42c5ce2cafc4419afe38683600b087c3170092d51ef1ca", func := "dumbwaiter/dumbwaiterlaw03.LabelOrders", spec := "labelOrders", unfollowed := true, recurses := true, apart := false, narrowed := true }
def LabelOrdersUptoSaid : Prop := labelOrdersUptoRow.holds Try.pinned (OpenSpec.upto labelOrdersSpec)

/-- 'dumbwaiterlaw03.LabelKnown', WHERE WHAT IT READS IS OF BULK AT MOST 1048576: true; the input reads as it did. -/
def labelKnownUptoRow : OpenClaim := { program := "ytddhkbholbcebaa", sum := "1f2dffb3504a6178ee42c5ce2cafc4419afe38683600b087c3170092d51ef1ca", func := "dumbwaiter/dumbwaiterlaw03.LabelKnown", spec := "labelKnown", unfollowed := true, recurses := true, apart := false, narrowed := true }
def LabelKnownUptoSaid : Prop := labelKnownUptoRow.holds Try.pinned (OpenSpec.upto labelKnownSpec)

/-- 'dumbwaiterlaw03.LabelKeeps', WHERE WHAT IT READS IS OF BULK AT MOST 1048576: true; the input reads as it did. -/
def labelKeepsUptoRow : OpenClaim := { program := "ytddhkbholbcebaa", sum := "1f2dffb3504a6178ee42c5ce2cafc4419afe38683600b087c3170092d51ef1ca", func := "dumbwaiter/dumbwaiterlaw03.LabelKeeps", spec := "labelKeeps", unfollowed := true, recurses := true, apart := false, narrowed := true }
def LabelKeepsUptoSaid : Prop := labelKeepsUptoRow.holds Try.pinned (OpenSpec.upto labelKeepsSpec)

/-- 'dumbwaiterlaw03.LabelNil', WHERE WHAT IT READS IS OF BULK AT MOST 1048576: true; the input reads as it did. -/
def labelNilUptoRow : OpenClaim := { program := "ytddhkbholbcebaa", sum := "1f2dffb3504a6178ee42c5ce2cafc4419afe38683600b087c3170092d51ef1ca", func := "dumbwaiter/dumbwaiterlaw03.LabelNil", spec := "labelNil", unfollowed := true, recurses := true, apart := false, narrowed := true }
def LabelNilUptoSaid : Prop := labelNilUptoRow.holds Try.pinned (OpenSpec.upto labelNilSpec)

end Rows
end Go.Proofs.Ytddhkbholbcebaa
