/- The guards and the arguments of the laws on labels. -/
import Derived.Test.YtbdbeenkamcglaaNetMostLbT
import Derived.Test.YtbdbeenkamcglaaNetMostA
set_option linter.unusedVariables false
set_option linter.unusedSimpArgs false
set_option maxRecDepth 100000
namespace Go.Proofs.Ytbdbeenkamcglaa
open Go Go.V
theorem new_ok {us : List Nat} (hw : w64 us) (h1 : 1 ≤ us.length) (hn : us.length ≤ 16) (hP : ordP us) (hJ : okJ us) : label_New (up us) = some (some (latF us), 0) := by
  obtain ⟨r, h2, h3⟩ := new_eq hw (some (latF us), 0) fun _ _ _ _ => fin_eq hn h1
  rcases h3 with ⟨h, _⟩ | ⟨_, h | h⟩
  · omega
  · rw [h2, h.2.2]
  · exact absurd ⟨hP, hJ⟩ h.1
def okJB (us : List Nat) : Bool := (List.range us.length).all fun a => (List.range us.length).all fun b => hasB us a b
theorem okJ_of {us : List Nat} (h : okJB us = true) : okJ us := fun a ha b hb => by
  have := List.all_eq_true.1 h a (List.mem_range.2 ha)
  exact List.all_eq_true.1 this b (List.mem_range.2 hb)
def w64B (us : List Nat) : Bool := us.all fun x => decide (x < 2 ^ 64)
theorem w64_of {us : List Nat} (h : w64B us = true) : w64 us := fun x hx => of_decide_eq_true (List.all_eq_true.1 h x hx)
theorem new_known {us : List Nat} (h1 : w64B us = true) (h2 : ordB us = true) (h3 : okJB us = true) (h4 : 1 ≤ us.length) (h5 : us.length ≤ 16) : label_New (up us) = some (some (latF us), 0) :=
  new_ok (w64_of h1) h4 h5 ((ordB_iff (w64_of h1)).1 h2) (okJ_of h3)
/-! ### The known lattices -/
/-! ### Labels that are ordered in any way -/
theorem tmod_nat {n k : Nat} : Int.tmod (n : Int) (k : Int) = ((n % k : Nat) : Int) := by rw [Int.tmod_eq_emod_of_nonneg (Int.natCast_nonneg _)]; rfl
end Go.Proofs.Ytbdbeenkamcglaa
