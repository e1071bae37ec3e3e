/- A hold's bytes. -/
import Derived.Test.YtbdhhmnncknhhaaLocksMeetCodW
set_option linter.unusedVariables false
set_option linter.unusedSimpArgs false
set_option maxRecDepth 100000
namespace Go.Proofs.Ytbdhhmnncknhhaa
open Go Go.V
def isF (x : Nat) : Prop := x < 18446744073709551616
def rkB (x : Nat) : List Int := leB 8 (fRank x).toNat
def scB (x : Nat × Nat) : List Int := rkB x.1 ++ rkB x.2
def idB (x : api_ID) : List Int := leB 8 x.Session.toNat ++ leB 8 x.Seq.toNat
def holdB (h : api_Hold) : List Int :=
  leB 8 h.ID.Session.toNat ++ (leB 8 h.ID.Seq.toNat ++ (leB 8 h.Epoch.toNat ++ (leB 4 h.Gets.length ++ ((h.Gets.map rkB).flatten ++ (leB 4 h.Scans.length ++ ((h.Scans.map scB).flatten ++ (leB 4 h.Puts.length ++ ((h.Puts.map rkB).flatten ++ byB h.Data))))))))
end Go.Proofs.Ytbdhhmnncknhhaa
