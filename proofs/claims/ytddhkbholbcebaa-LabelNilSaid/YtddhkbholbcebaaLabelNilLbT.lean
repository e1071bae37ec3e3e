/- The document's check, and what a lattice tells; plainly. -/
import Derived.Test.YtddhkbholbcebaaLabelNilLbS
set_option linter.unusedVariables false
set_option linter.unusedSimpArgs false
set_option maxRecDepth 100000
namespace Go.Proofs.Ytddhkbholbcebaa
open Go Go.V
variable {us : List Nat}
/-! ### What a lattice tells -/
def inR (us : List Nat) (a : Int) : Bool := decide (a ≥ (0:Int)) && decide (a < (us.length : Int))
theorem inR_of {k : Nat} (h : k < us.length) : inR us (k : Int) = true := by simp [inR, h]
theorem lf_up (us : List Nat) : (latF us).up = up us := rfl
theorem lf_join (us : List Nat) : (latF us).join = tab us.length fun x => tab us.length (jI us x) := rfl
theorem lf_rank (us : List Nat) : (latF us).rank = tab us.length (ps us) := rfl
theorem len_eqL (us : List Nat) : label_Lattice_Len (some (latF us)) = some (us.length : Int) := by simp only [label_Lattice_Len, lf_up, up_len]
theorem is_eq (us : List Nat) (a : Int) : label_Lattice_Is (some (latF us)) a = some (inR us a) := by
  simp only [label_Lattice_Is, len_eqL, Option.bind_some, inR]
  cases decide (a ≥ (0:Int)) <;> rfl
theorem joinL_in {a b : Nat} (ha : a < us.length) (hb : b < us.length) : label_Lattice_Join (some (latF us)) (a : Int) (b : Int) = some (jI us a b) := by
  simp only [label_Lattice_Join, is_eq, inR_of ha, inR_of hb, Option.bind_some, Bool.not_true, cond_false, lf_join, get_tab _ ha, get_tab _ hb]
theorem rank_in {a : Nat} (ha : a < us.length) : label_Lattice_Rank (some (latF us)) (a : Int) = some (ps us a) := by
  simp only [label_Lattice_Rank, is_eq, inR_of ha, Option.bind_some, Bool.not_true, cond_false, lf_rank, get_tab _ ha]
end Go.Proofs.Ytddhkbholbcebaa
