/-
  No cell of these rows narrows 'for every input' (looked for: loops, veiled, ifaces, maps, wideKeys, modest, calm, conditions, laid).
  DERIVED. THE GIVEN ROWS OF THIS SEAT. 9 by the template 'for every input the law returns true; each argument reads behind the call as it read before'; 0 by the template 'total and deterministic' (their statements: YtgnkkopjkgdieaaGreatTotals.lean).
  GIVEN WITH THE SEED: the statements are not yours to turn. If you find one false, say at which input.
  Laid BY PROGRAM, IN A SANDBOX (cutbox-rows.mjs): the forced cells as the released guide's own fill.sh prints them over the translation fa82f3d59fdaca15… (all of the seat's roots in one cut). By AI agents, Wed Nov 11 2026. No macro, syntax, notation, axiom, sorry.
-/
import Derived.Test.YtgnkkopjkgdieaaGreatChecked
import GoSem.Claim
import GoSem.ClaimJoined
import GoSem.ClaimMapViews
import Derived.JoinedTies
import Derived.KernelRfl
namespace Go.Proofs.YtgnkkopjkgdieaaGreat
/- THE CELL 'sum', in the pinned program and in every row, IS THE sha256 OF THE DUMP (.gsa) THAT YtgnkkopjkgdieaaGreatProg.lean LOADS. Nothing in Lean hashes anything: it is a label: what it is worth is what the hold of that sum in a sandbox is worth. -/
noncomputable def Tryz.pinned : Pinned := { name := "ytgnkkopjkgdieaagreat", sum := "fa82f3d59fdaca1584f31947f5bf85982cd812543b218c35649721da016f2442", checked := Tryz.checked }
namespace Rows
def none {H : Type} : Left H := { results := [], args := [] }

/-- 'dumbwaiterlaw16.LaneQuotas': WHATEVER THE INPUT: true; the input reads as it did. -/
def laneQuotasSpec : ChangeSpec := { name := "laneQuotas", fn := fun _ => fun
  | [d1, d2, d3, d4] => { results := [.lit (.bool true)], args := [d1, d2, d3, d4] }
  | _ => none }
def laneQuotasRow : OpenClaim := { program := "ytgnkkopjkgdieaagreat", sum := "fa82f3d59fdaca1584f31947f5bf85982cd812543b218c35649721da016f2442", func := "dumbwaiter/dumbwaiterlaw16.LaneQuotas", spec := "laneQuotas", inPlace := ["math.Float64bits", "slices.overlaps[dumbwaiter/api.Hold]", "math.Float64frombits", "slices.overlaps[dumbwaiter/mvcc.row]", "slices.overlaps[dumbwaiter/mvcc.Version]", "slices.overlaps[dumbwaiter/session.row]", "slices.overlaps[dumbwaiter/api.Decision]", "slices.overlaps[dumbwaiter/lane.used]"], unfollowed := true, recurses := true, apart := false }
def LaneQuotasSaid : Prop := laneQuotasRow.holds Tryz.pinned (OpenSpec.ofChange laneQuotasSpec)

/-- ITS FALSE NEIGHBOUR: 'it returns false'. Refute it at one input. -/
def laneQuotasWrong : ChangeSpec := { name := "laneQuotas", fn := fun _ => fun
  | [d1, d2, d3, d4] => { results := [.lit (.bool false)], args := [d1, d2, d3, d4] }
  | _ => none }
def LaneQuotasWrongFalsely : Prop := laneQuotasRow.holds Tryz.pinned (OpenSpec.ofChange laneQuotasWrong)

/-- 'dumbwaiterlaw16.LanePads': WHATEVER THE INPUT: true; the input reads as it did. -/
def lanePadsSpec : ChangeSpec := { name := "lanePads", fn := fun _ => fun
  | [d1, d2, d3, d4] => { results := [.lit (.bool true)], args := [d1, d2, d3, d4] }
  | _ => none }
def lanePadsRow : OpenClaim := { program := "ytgnkkopjkgdieaagreat", sum := "fa82f3d59fdaca1584f31947f5bf85982cd812543b218c35649721da016f2442", func := "dumbwaiter/dumbwaiterlaw16.LanePads", spec := "lanePads", inPlace := ["math.Float64bits", "slices.overlaps[dumbwaiter/api.Hold]", "math.Float64frombits", "slices.overlaps[dumbwaiter/mvcc.row]", "slices.overlaps[dumbwaiter/mvcc.Version]", "slices.overlaps[dumbwaiter/session.row]", "slices.overlaps[dumbwaiter/api.Decision]", "slices.overlaps[dumbwaiter/lane.used]"], unfollowed := true, recurses := true, apart := false }
def LanePadsSaid : Prop := lanePadsRow.holds Tryz.pinned (OpenSpec.ofChange lanePadsSpec)

/-- ITS FALSE NEIGHBOUR: 'it returns false'. Refute it at one input. -/
def lanePadsWrong : ChangeSpec := { name := "lanePads", fn := fun _ => fun
  | [d1, d2, d3, d4] => { results := [.lit (.bool false)], args := [d1, d2, d3, d4] }
  | _ => none }
def LanePadsWrongFalsely : Prop := lanePadsRow.holds Tryz.pinned (OpenSpec.ofChange lanePadsWrong)

/-- 'dumbwaiterlaw16.LaneHolds': WHATEVER THE INPUT: true; the input reads as it did. -/
def laneHoldsSpec : ChangeSpec := { name := "laneHolds", fn := fun _ => fun
  | [d1, d2, d3] => { results := [.lit (.bool true)], args := [d1, d2, d3] }
  | _ => none }
def laneHoldsRow : OpenClaim := { program := "ytgnkkopjkgdieaagreat", sum := "fa82f3d59fdaca1584f31947f5bf85982cd812543b218c35649721da016f2442", func := "dumbwaiter/dumbwaiterlaw16.LaneHolds", spec := "laneHolds", inPlace := ["math.Float64bits", "slices.overlaps[dumbwaiter/api.Hold]", "math.Float64frombits", "slices.overlaps[dumbwaiter/mvcc.row]", "slices.overlaps[dumbwaiter/mvcc.Version]", "slices.overlaps[dumbwaiter/session.row]", "slices.overlaps[dumbwaiter/api.Decision]", "slices.overlaps[dumbwaiter/lane.used]"], unfollowed := true, recurses := true, apart := false }
def LaneHoldsSaid : Prop := laneHoldsRow.holds Tryz.pinned (OpenSpec.ofChange laneHoldsSpec)

/-- ITS FALSE NEIGHBOUR: 'it returns false'. Refute it at one input. -/
def laneHoldsWrong : ChangeSpec := { name := "laneHolds", fn := fun _ => fun
  | [d1, d2, d3] => { results := [.lit (.bool false)], args := [d1, d2, d3] }
  | _ => none }
def LaneHoldsWrongFalsely : Prop := laneHoldsRow.holds Tryz.pinned (OpenSpec.ofChange laneHoldsWrong)

/-- 'dumbwaiterlaw16.LaneInner': WHATEVER THE INPUT: true; the input reads as it did. -/
def laneInnerSpec : ChangeSpec := { name := "laneInner", fn := fun _ => fun
  | [d1, d2] => { results := [.lit (.bool true)], args := [d1, d2] }
  | _ => none }
def laneInnerRow : OpenClaim := { program := "ytgnkkopjkgdieaagreat", sum := "fa82f3d59fdaca1584f31947f5bf85982cd812543b218c35649721da016f2442", func := "dumbwaiter/dumbwaiterlaw16.LaneInner", spec := "laneInner", inPlace := ["math.Float64bits", "slices.overlaps[dumbwaiter/api.Hold]", "math.Float64frombits", "slices.overlaps[dumbwaiter/mvcc.row]", "slices.overlaps[dumbwaiter/mvcc.Version]", "slices.overlaps[dumbwaiter/session.row]", "slices.overlaps[dumbwaiter/api.Decision]", "slices.overlaps[dumbwaiter/lane.used]"], unfollowed := true, recurses := true, apart := false }
def LaneInnerSaid : Prop := laneInnerRow.holds Tryz.pinned (OpenSpec.ofChange laneInnerSpec)

/-- ITS FALSE NEIGHBOUR: 'it returns false'. Refute it at one input. -/
def laneInnerWrong : ChangeSpec := { name := "laneInner", fn := fun _ => fun
  | [d1, d2] => { results := [.lit (.bool false)], args := [d1, d2] }
  | _ => none }
def LaneInnerWrongFalsely : Prop := laneInnerRow.holds Tryz.pinned (OpenSpec.ofChange laneInnerWrong)

/-- 'dumbwaiterlaw16.LaneEpochs': WHATEVER THE INPUT: true; the input reads as it did. -/
def laneEpochsSpec : ChangeSpec := { name := "laneEpochs", fn := fun _ => fun
  | [d1, d2, d3] => { results := [.lit (.bool true)], args := [d1, d2, d3] }
  | _ => none }
def laneEpochsRow : OpenClaim := { program := "ytgnkkopjkgdieaagreat", sum := "fa82f3d59fdaca1584f31947f5bf85982cd812543b218c35649721da016f2442", func := "dumbwaiter/dumbwaiterlaw16.LaneEpochs", spec := "laneEpochs", inPlace := ["math.Float64bits", "slices.overlaps[dumbwaiter/api.Hold]", "math.Float64frombits", "slices.overlaps[dumbwaiter/mvcc.row]", "slices.overlaps[dumbwaiter/mvcc.Version]", "slices.overlaps[dumbwaiter/session.row]", "slices.overlaps[dumbwaiter/api.Decision]", "slices.overlaps[dumbwaiter/lane.used]"], unfollowed := true, recurses := true, apart := false }
def LaneEpochsSaid : Prop := laneEpochsRow.holds Tryz.pinned (OpenSpec.ofChange laneEpochsSpec)

/-- ITS FALSE NEIGHBOUR: 'it returns false'. Refute it at one input. -/
def laneEpochsWrong : ChangeSpec := { name := "laneEpochs", fn := fun _ => fun
  | [d1, d2, d3] => { results := [.lit (.bool false)], args := [d1, d2, d3] }
  | _ => none }
def LaneEpochsWrongFalsely : Prop := laneEpochsRow.holds Tryz.pinned (OpenSpec.ofChange laneEpochsWrong)

/-- 'dumbwaiterlaw16.LaneReads': WHATEVER THE INPUT: true; the input reads as it did. -/
def laneReadsSpec : ChangeSpec := { name := "laneReads", fn := fun _ => fun
  | [d1, d2, d3] => { results := [.lit (.bool true)], args := [d1, d2, d3] }
  | _ => none }
def laneReadsRow : OpenClaim := { program := "ytgnkkopjkgdieaagreat", sum := "fa82f3d59fdaca1584f31947f5bf85982cd812543b218c35649721da016f2442", func := "dumbwaiter/dumbwaiterlaw16.LaneReads", spec := "laneReads", inPlace := ["math.Float64bits", "slices.overlaps[dumbwaiter/api.Hold]", "math.Float64frombits", "slices.overlaps[dumbwaiter/mvcc.row]", "slices.overlaps[dumbwaiter/mvcc.Version]", "slices.overlaps[dumbwaiter/session.row]", "slices.overlaps[dumbwaiter/api.Decision]", "slices.overlaps[dumbwaiter/lane.used]"], unfollowed := true, recurses := true, apart := false }
def LaneReadsSaid : Prop := laneReadsRow.holds Tryz.pinned (OpenSpec.ofChange laneReadsSpec)

/-- ITS FALSE NEIGHBOUR: 'it returns false'. Refute it at one input. -/
def laneReadsWrong : ChangeSpec := { name := "laneReads", fn := fun _ => fun
  | [d1, d2, d3] => { results := [.lit (.bool false)], args := [d1, d2, d3] }
  | _ => none }
def LaneReadsWrongFalsely : Prop := laneReadsRow.holds Tryz.pinned (OpenSpec.ofChange laneReadsWrong)

/-- 'dumbwaiterlaw16.LaneOnce': WHATEVER THE INPUT: true; the input reads as it did. -/
def laneOnceSpec : ChangeSpec := { name := "laneOnce", fn := fun _ => fun
  | [d1, d2] => { results := [.lit (.bool true)], args := [d1, d2] }
  | _ => none }
def laneOnceRow : OpenClaim := { program := "ytgnkkopjkgdieaagreat", sum := "fa82f3d59fdaca1584f31947f5bf85982cd812543b218c35649721da016f2442", func := "dumbwaiter/dumbwaiterlaw16.LaneOnce", spec := "laneOnce", inPlace := ["math.Float64bits", "slices.overlaps[dumbwaiter/api.Hold]", "math.Float64frombits", "slices.overlaps[dumbwaiter/mvcc.row]", "slices.overlaps[dumbwaiter/mvcc.Version]", "slices.overlaps[dumbwaiter/session.row]", "slices.overlaps[dumbwaiter/api.Decision]", "slices.overlaps[dumbwaiter/lane.used]"], unfollowed := true, recurses := true, apart := false }
def LaneOnceSaid : Prop := laneOnceRow.holds Tryz.pinned (OpenSpec.ofChange laneOnceSpec)

/-- ITS FALSE NEIGHBOUR: 'it returns false'. Refute it at one input. -/
def laneOnceWrong : ChangeSpec := { name := "laneOnce", fn := fun _ => fun
  | [d1, d2] => { results := [.lit (.bool false)], args := [d1, d2] }
  | _ => none }
def LaneOnceWrongFalsely : Prop := laneOnceRow.holds Tryz.pinned (OpenSpec.ofChange laneOnceWrong)

/-- 'dumbwaiterlaw16.LanePlays': WHATEVER THE INPUT: true; the input reads as it did. -/
def lanePlaysSpec : ChangeSpec := { name := "lanePlays", fn := fun _ => fun
  | [d1, d2] => { results := [.lit (.bool true)], args := [d1, d2] }
  | _ => none }
def lanePlaysRow : OpenClaim := { program := "ytgnkkopjkgdieaagreat", sum := "fa82f3d59fdaca1584f31947f5bf85982cd812543b218c35649721da016f2442", func := "dumbwaiter/dumbwaiterlaw16.LanePlays", spec := "lanePlays", inPlace := ["math.Float64bits", "slices.overlaps[dumbwaiter/api.Hold]", "math.Float64frombits", "slices.overlaps[dumbwaiter/mvcc.row]", "slices.overlaps[dumbwaiter/mvcc.Version]", "slices.overlaps[dumbwaiter/session.row]", "slices.overlaps[dumbwaiter/api.Decision]", "slices.overlaps[dumbwaiter/lane.used]"], unfollowed := true, recurses := true, apart := false }
def LanePlaysSaid : Prop := lanePlaysRow.holds Tryz.pinned (OpenSpec.ofChange lanePlaysSpec)

/-- ITS FALSE NEIGHBOUR: 'it returns false'. Refute it at one input. -/
def lanePlaysWrong : ChangeSpec := { name := "lanePlays", fn := fun _ => fun
  | [d1, d2] => { results := [.lit (.bool false)], args := [d1, d2] }
  | _ => none }
def LanePlaysWrongFalsely : Prop := lanePlaysRow.holds Tryz.pinned (OpenSpec.ofChange lanePlaysWrong)

/-- 'dumbwaiterlaw16.LaneBytes': WHATEVER THE INPUT: true; the input reads as it did. -/
def laneBytesSpec : ChangeSpec := { name := "laneBytes", fn := fun _ => fun
  | [d1, d2] => { results := [.lit (.bool true)], args := [d1, d2] }
  | _ => none }
def laneBytesRow : OpenClaim := { program := "ytgnkkopjkgdieaagreat", sum := "fa82f3d59fdaca1584f31947f5bf85982cd812543b218c35649721da016f2442", func := "dumbwaiter/dumbwaiterlaw16.LaneBytes", spec := "laneBytes", inPlace := ["math.Float64bits", "slices.overlaps[dumbwaiter/api.Hold]", "math.Float64frombits", "slices.overlaps[dumbwaiter/mvcc.row]", "slices.overlaps[dumbwaiter/mvcc.Version]", "slices.overlaps[dumbwaiter/session.row]", "slices.overlaps[dumbwaiter/api.Decision]", "slices.overlaps[dumbwaiter/lane.used]"], unfollowed := true, recurses := true, apart := false }
def LaneBytesSaid : Prop := laneBytesRow.holds Tryz.pinned (OpenSpec.ofChange laneBytesSpec)

/-- ITS FALSE NEIGHBOUR: 'it returns false'. Refute it at one input. -/
def laneBytesWrong : ChangeSpec := { name := "laneBytes", fn := fun _ => fun
  | [d1, d2] => { results := [.lit (.bool false)], args := [d1, d2] }
  | _ => none }
def LaneBytesWrongFalsely : Prop := laneBytesRow.holds Tryz.pinned (OpenSpec.ofChange laneBytesWrong)

/- THE SECOND FORM. 'bulk': how many values and letters a reading holds, each counted each time it is reached (what is shared counts as often as it is met; a slice's spare places count too). A statement '..UptoSaid' is the law's where the arguments, and the package variables that the reading takes, are together of bulk at most 1048576: NARROWER than '..Said'. Prove '..Said' where nothing that the law and all that it calls make is longer than what came in: it says more and counts as full. Else prove '..UptoSaid'. A law counts once. -/
mutual
def uptoBulk {H : Type} : DataW H → Nat
  | .lit (.string bytes) => bytes.length + 1
  | .lit _ => 1
  | .nil => 1
  | .ptr d => uptoBulk d + 1
  | .slice elems spare => uptoBulkAll elems + uptoBulkAll spare + 1
  | .agg parts => uptoBulkAll parts + 1
  | .iface _ d => uptoBulk d + 1
  | .map entries => uptoBulkEntries entries + 1
  | .held _ => 1
def uptoBulkAll {H : Type} : List (DataW H) → Nat
  | [] => 0
  | d :: r => uptoBulk d + uptoBulkAll r
def uptoBulkEntries {H : Type} : List (Lit × DataW H) → Nat
  | [] => 0
  | x :: r => uptoBulkEntry x + uptoBulkEntries r
def uptoBulkEntry {H : Type} : Lit × DataW H → Nat
  | (.string bytes, d) => bytes.length + uptoBulk d + 1
  | (_, d) => uptoBulk d + 1
 end
def uptoSmall : (H : Type) → List (DataW H) → Bool := fun _ ds => decide (uptoBulkAll ds ≤ 1048576)
def OpenSpec.upto (s : _root_.Go.ChangeSpec) : _root_.Go.OpenSpec := { _root_.Go.OpenSpec.ofChange s with cond := some uptoSmall }

/-- 'dumbwaiterlaw16.LaneQuotas', WHERE WHAT IT READS IS OF BULK AT MOST 1048576: true; the input reads as it did. -/
def laneQuotasUptoRow : OpenClaim := { program := "ytgnkkopjkgdieaagreat", sum := "fa82f3d59fdaca1584f31947f5bf85982cd812543b218c35649721da016f2442", func := "dumbwaiter/dumbwaiterlaw16.LaneQuotas", spec := "laneQuotas", inPlace := ["math.Float64bits", "slices.overlaps[dumbwaiter/api.Hold]", "math.Float64frombits", "slices.overlaps[dumbwaiter/mvcc.row]", "slices.overlaps[dumbwaiter/mvcc.Version]", "slices.overlaps[dumbwaiter/session.row]", "slices.overlaps[dumbwaiter/api.Decision]", "slices.overlaps[dumbwaiter/lane.used]"], unfollowed := true, recurses := true, apart := false, narrowed := true }
def LaneQuotasUptoSaid : Prop := laneQuotasUptoRow.holds Tryz.pinned (OpenSpec.upto laneQuotasSpec)

/-- 'dumbwaiterlaw16.LanePads', WHERE WHAT IT READS IS OF BULK AT MOST 1048576: true; the input reads as it did. -/
def lanePadsUptoRow : OpenClaim := { program := "ytgnkkopjkgdieaagreat", sum := "fa82f3d59fdaca1584f31947f5bf85982cd812543b218c35649721da016f2442", func := "dumbwaiter/dumbwaiterlaw16.LanePads", spec := "lanePads", inPlace := ["math.Float64bits", "slices.overlaps[dumbwaiter/api.Hold]", "math.Float64frombits", "slices.overlaps[dumbwaiter/mvcc.row]", "slices.overlaps[dumbwaiter/mvcc.Version]", "slices.overlaps[dumbwaiter/session.row]", "slices.overlaps[dumbwaiter/api.Decision]", "slices.overlaps[dumbwaiter/lane.used]"], unfollowed := true, recurses := true, apart := false, narrowed := true }
def LanePadsUptoSaid : Prop := lanePadsUptoRow.holds Tryz.pinned (OpenSpec.upto lanePadsSpec)

/-- 'dumbwaiterlaw16.LaneHolds', WHERE WHAT IT READS IS OF BULK AT MOST 1048576: true; the input reads as it did. -/
def laneHoldsUptoRow : OpenClaim := { program := "ytgnkkopjkgdieaagreat", sum := "fa82f3d59fdaca1584f31947f5bf85982cd812543b218c35649721da016f2442", func := "dumbwaiter/dumbwaiterlaw16.LaneHolds", spec := "laneHolds", inPlace := ["math.Float64bits", "slices.overlaps[dumbwaiter/api.Hold]", "math.Float64frombits", "slices.overlaps[dumbwaiter/mvcc.row]", "slices.overlaps[dumbwaiter/mvcc.Version]", "slices.overlaps[dumbwaiter/session.row]", "slices.overlaps[dumbwaiter/api.Decision]", "slices.overlaps[dumbwaiter/lane.used]"], unfollowed := true, recurses := true, apart := false, narrowed := true }
def LaneHoldsUptoSaid : Prop := laneHoldsUptoRow.holds Tryz.pinned (OpenSpec.upto laneHoldsSpec)

/-- 'dumbwaiterlaw16.LaneInner', WHERE WHAT IT READS IS OF BULK AT MOST 1048576: true; the input reads as it did. -/
def laneInnerUptoRow : OpenClaim := { program := "ytgnkkopjkgdieaagreat", sum := "fa82f3d59fdaca1584f31947f5bf85982cd812543b218c35649721da016f2442", func := "dumbwaiter/dumbwaiterlaw16.LaneInner", spec := "laneInner", inPlace := ["math.Float64bits", "slices.overlaps[dumbwaiter/api.Hold]", "math.Float64frombits", "slices.overlaps[dumbwaiter/mvcc.row]", "slices.overlaps[dumbwaiter/mvcc.Version]", "slices.overlaps[dumbwaiter/session.row]", "slices.overlaps[dumbwaiter/api.Decision]", "slices.overlaps[dumbwaiter/lane.used]"], unfollowed := true, recurses := true, apart := false, narrowed := true }
def LaneInnerUptoSaid : Prop := laneInnerUptoRow.holds Tryz.pinned (OpenSpec.upto laneInnerSpec)

/-- 'dumbwaiterlaw16.LaneEpochs', WHERE WHAT IT READS IS OF BULK AT MOST 1048576: true; the input reads as it did. -/
def laneEpochsUptoRow : OpenClaim := { program := "ytgnkkopjkgdieaagreat", sum := "fa82f3d59fdaca1584f31947f5bf85982cd812543b218c35649721da016f2442", func := "dumbwaiter/dumbwaiterlaw16.LaneEpochs", spec := "laneEpochs", inPlace := ["math.Float64bits", "slices.overlaps[dumbwaiter/api.Hold]", "math.Float64frombits", "slices.overlaps[dumbwaiter/mvcc.row]", "slices.overlaps[dumbwaiter/mvcc.Version]", "slices.overlaps[dumbwaiter/session.row]", "slices.overlaps[dumbwaiter/api.Decision]", "slices.overlaps[dumbwaiter/lane.used]"], unfollowed := true, recurses := true, apart := false, narrowed := true }
def LaneEpochsUptoSaid : Prop := laneEpochsUptoRow.holds Tryz.pinned (OpenSpec.upto laneEpochsSpec)

/-- 'dumbwaiterlaw16.LaneReads', WHERE WHAT IT READS IS OF BULK AT MOST 1048576: true; the input reads as it did. -/
def laneReadsUptoRow : OpenClaim := { program := "ytgnkkopjkgdieaagreat", sum := "fa82f3d59fdaca1584f31947f5bf85982cd812543b218c35649721da016f2442", func := "dumbwaiter/dumbwaiterlaw16.LaneReads", spec := "laneReads", inPlace := ["math.Float64bits", "slices.overlaps[dumbwaiter/api.Hold]", "math.Float64frombits", "slices.overlaps[dumbwaiter/mvcc.row]", "slices.overlaps[dumbwaiter/mvcc.Version]", "slices.overlaps[dumbwaiter/session.row]", "slices.overlaps[dumbwaiter/api.Decision]", "slices.overlaps[dumbwaiter/lane.used]"], unfollowed := true, recurses := true, apart := false, narrowed := true }
def LaneReadsUptoSaid : Prop := laneReadsUptoRow.holds Tryz.pinned (OpenSpec.upto laneReadsSpec)

/-- 'dumbwaiterlaw16.LaneOnce', WHERE WHAT IT READS IS OF BULK AT MOST 1048576: true; the input reads as it did. -/
def laneOnceUptoRow : OpenClaim := { program := "ytgnkkopjkgdieaagreat", sum := "fa82f3d59fdaca1584f31947f5bf85982cd812543b218c35649721da016f2442", func := "dumbwaiter/dumbwaiterlaw16.LaneOnce", spec := "laneOnce", inPlace := ["math.Float64bits", "slices.overlaps[dumbwaiter/api.Hold]", "math.Float64frombits", "slices.overlaps[dumbwaiter/mvcc.row]", "slices.overlaps[dumbwaiter/mvcc.Version]", "slices.overlaps[dumbwaiter/session.row]", "slices.overlaps[dumbwaiter/api.Decision]", "slices.overlaps[dumbwaiter/lane.used]"], unfollowed := true, recurses := true, apart := false, narrowed := true }
def LaneOnceUptoSaid : Prop := laneOnceUptoRow.holds Tryz.pinned (OpenSpec.upto laneOnceSpec)

/-- 'dumbwaiterlaw16.LanePlays', WHERE WHAT IT READS IS OF BULK AT MOST 1048576: true; the input reads as it did. -/
def lanePlaysUptoRow : OpenClaim := { program := "ytgnkkopjkgdieaagreat", sum := "fa82f3d59fdaca1584f31947f5bf85982cd812543b218c35649721da016f2442", func := "dumbwaiter/dumbwaiterlaw16.LanePlays", spec := "lanePlays", inPlace := ["math.Float64bits", "slices.overlaps[dumbwaiter/api.Hold]", "math.Float64frombits", "slices.overlaps[dumbwaiter/mvcc.row]", "slices.overlaps[dumbwaiter/mvcc.Version]", "slices.overlaps[dumbwaiter/session.row]", "slices.overlaps[dumbwaiter/api.Decision]", "slices.overlaps[dumbwaiter/lane.used]"], unfollowed := true, recurses := true, apart := false, narrowed := true }
def LanePlaysUptoSaid : Prop := lanePlaysUptoRow.holds Tryz.pinned (OpenSpec.upto lanePlaysSpec)

/-- 'dumbwaiterlaw16.LaneBytes', WHERE WHAT IT READS IS OF BULK AT MOST 1048576: true; the input reads as it did. -/
def laneBytesUptoRow : OpenClaim := { program := "ytgnkkopjkgdieaagreat", sum := "fa82f3d59fdaca1584f31947f5bf85982cd812543b218c35649721da016f2442", func := "dumbwaiter/dumbwaiterlaw16.LaneBytes", spec := "laneBytes", inPlace := ["math.Float64bits", "slices.overlaps[dumbwaiter/api.Hold]", "math.Float64frombits", "slices.overlaps[dumbwaiter/mvcc.row]", "slices.overlaps[dumbwaiter/mvcc.Version]", "slices.overlaps[dumbwaiter/session.row]", "slices.overlaps[dumbwaiter/api.Decision]", "slices.overlaps[dumbwaiter/lane.used]"], unfollowed := true, recurses := true, apart := false, narrowed := true }
def LaneBytesUptoSaid : Prop := laneBytesUptoRow.holds Tryz.pinned (OpenSpec.upto laneBytesSpec)

end Rows
end Go.Proofs.YtgnkkopjkgdieaaGreat
