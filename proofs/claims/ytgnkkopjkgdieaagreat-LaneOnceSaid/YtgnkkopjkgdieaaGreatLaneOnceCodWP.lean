/- The bytes of an answer. -/
import Derived.Test.YtgnkkopjkgdieaaGreatLaneOnceCodWH
set_option linter.unusedVariables false
set_option linter.unusedSimpArgs false
set_option maxRecDepth 100000
namespace Go.Proofs.YtgnkkopjkgdieaaGreat
open Go Go.V
def gotB (x : api_Got) : List Int := flB x.Has ++ byB x.Val
def pairB (x : api_Pair) : List Int := rkB x.At ++ byB x.Val
def pairsB (l : List api_Pair) : List Int := leB 4 l.length ++ (l.map pairB).flatten
def replyB (x : api_Reply) : List Int := leB 1 (un x.E) ++ (leB 8 x.Epoch.toNat ++ (leB 8 x.Index.toNat ++ (leB 4 x.Gots.length ++ ((x.Gots.map gotB).flatten ++ (leB 4 x.Scans.length ++ (x.Scans.map pairsB).flatten)))))
end Go.Proofs.YtgnkkopjkgdieaaGreat
