/- An answer is read. -/
import Derived.Test.YtgnkkopjkgdieaaGreatLaneOnceCodRH
import Derived.Test.YtgnkkopjkgdieaaGreatLaneOnceCodWP
set_option linter.unusedVariables false
set_option linter.unusedSimpArgs false
set_option maxRecDepth 100000
namespace Go.Proofs.YtgnkkopjkgdieaaGreat
open Go Go.V
def gotG (x : api_Got) : Prop := x.Val.length ≤ 256 ∧ U8s x.Val
def pairG (x : api_Pair) : Prop := isF x.At ∧ x.Val.length ≤ 256 ∧ U8s x.Val
def pairsG (l : List api_Pair) : Prop := l.length ≤ 64 ∧ ∀ p ∈ l, pairG p
def replyG (x : api_Reply) : Prop := isU 1 x.E ∧ isU 8 x.Epoch ∧ isU 8 x.Index ∧ (∀ g ∈ x.Gots, gotG g) ∧ (∀ l ∈ x.Scans, pairsG l) ∧ x.Gots.length ≤ 32 ∧ x.Scans.length ≤ 32
def cGot (x : api_Got) : api_Got := { Has := x.Has, Val := x.Val }
def cPair (x : api_Pair) : api_Pair := { At := cf x.At, Val := x.Val }
def cPairs (l : List api_Pair) : List api_Pair := l.map cPair
def cReply (x : api_Reply) : api_Reply := { E := x.E, Epoch := x.Epoch, Index := x.Index, Gots := x.Gots.map cGot, Scans := x.Scans.map cPairs }
end Go.Proofs.YtgnkkopjkgdieaaGreat
