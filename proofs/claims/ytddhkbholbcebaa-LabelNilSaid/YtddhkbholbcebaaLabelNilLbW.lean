/- The guards and the arguments of the laws on labels. -/
import Derived.Test.YtddhkbholbcebaaLabelNilLbT
import Derived.Test.YtddhkbholbcebaaLabelNilA
set_option linter.unusedVariables false
set_option linter.unusedSimpArgs false
set_option maxRecDepth 100000
namespace Go.Proofs.Ytddhkbholbcebaa
open Go Go.V
theorem new_ok {us : List Nat} (hw : w64 us) (h1 : 1 ≤ us.length) (hn : us.length ≤ 16) (hP : ordP us) (hJ : okJ us) : label_New (up us) = some (some (latF us), 0) := by
  obtain ⟨r, h2, h3⟩ := new_eq hw (some (latF us), 0) fun _ _ _ _ => fin_eq hn h1
  rcases h3 with ⟨h, _⟩ | ⟨_, h | h⟩
  · omega
  · rw [h2, h.2.2]
  · exact absurd ⟨hP, hJ⟩ h.1
def okJB (us : List Nat) : Bool := (List.range us.length).all fun a => (List.range us.length).all fun b => hasB us a b
theorem okJ_of {us : List Nat} (h : okJB us = true) : okJ us := fun a ha b hb => by
  have := List.all_eq_true.1 h a (List.mem_range.2 ha)
  exact List.all_eq_true.1 this b (List.mem_range.2 hb)
def w64B (us : List Nat) : Bool := us.all fun x => decide (x < 2 ^ 64)
theorem w64_of {us : List Nat} (h : w64B us = true) : w64 us := fun x hx => of_decide_eq_true (List.all_eq_true.1 h x hx)
theorem new_known {us : List Nat} (h1 : w64B us = true) (h2 : ordB us = true) (h3 : okJB us = true) (h4 : 1 ≤ us.length) (h5 : us.length ≤ 16) : label_New (up us) = some (some (latF us), 0) :=
  new_ok (w64_of h1) h4 h5 ((ordB_iff (w64_of h1)).1 h2) (okJ_of h3)
theorem lb_awake : law03_awake = some true := by
  have h := new_known (us := [3, 2]) (by decide +kernel) (by decide +kernel) (by decide +kernel) (by decide) (by decide)
  have j := joinL_in (us := [3, 2]) (a := 0) (b := 1) (by decide) (by decide)
  have r1 := rank_in (us := [3, 2]) (a := 1) (by decide)
  have r0 := rank_in (us := [3, 2]) (a := 0) (by decide)
  rw [show jI [3, 2] 0 1 = 1 by decide +kernel] at j
  rw [show ps [3, 2] 1 = 1 by decide +kernel] at r1
  rw [show ps [3, 2] 0 = 0 by decide +kernel] at r0
  have e : label_New [(3:Int), (2:Int)] = some (some (latF [3, 2]), 0) := h
  have j' : label_Lattice_Join (some (latF [3, 2])) (0:Int) (1:Int) = some 1 := j
  have r1' : label_Lattice_Rank (some (latF [3, 2])) (1:Int) = some 1 := r1
  have r0' : label_Lattice_Rank (some (latF [3, 2])) (0:Int) = some 0 := r0
  simp only [law03_awake, e, Option.bind_some, j', r1', r0']
  rfl
/-! ### The known lattices -/
/-! ### Labels that are ordered in any way -/
end Go.Proofs.Ytddhkbholbcebaa
