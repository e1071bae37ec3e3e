/- The guards and the arguments of the laws on labels. -/
import Derived.Test.YtkjkbfaaigmmcaaConfigLanesLbT
import Derived.Test.YtkjkbfaaigmmcaaConfigLanesA
set_option linter.unusedVariables false
set_option linter.unusedSimpArgs false
set_option maxRecDepth 100000
namespace Go.Proofs.Ytkjkbfaaigmmcaa
open Go Go.V
theorem new_ok {us : List Nat} (hw : w64 us) (h1 : 1 ≤ us.length) (hn : us.length ≤ 16) (hP : ordP us) (hJ : okJ us) : label_New (up us) = some (some (latF us), 0) := by
  obtain ⟨r, h2, h3⟩ := new_eq hw (some (latF us), 0) fun _ _ _ _ => fin_eq hn h1
  rcases h3 with ⟨h, _⟩ | ⟨_, h | h⟩
  · omega
  · rw [h2, h.2.2]
  · exact absurd ⟨hP, hJ⟩ h.1
def okJB (us : List Nat) : Bool := (List.range us.length).all fun a => (List.range us.length).all fun b => hasB us a b
theorem okJ_of {us : List Nat} (h : okJB us = true) : okJ us := fun a ha b hb => by
  have := List.all_eq_true.1 h a (List.mem_range.2 ha)
  exact List.all_eq_true.1 this b (List.mem_range.2 hb)
def w64B (us : List Nat) : Bool := us.all fun x => decide (x < 2 ^ 64)
theorem w64_of {us : List Nat} (h : w64B us = true) : w64 us := fun x hx => of_decide_eq_true (List.all_eq_true.1 h x hx)
theorem new_known {us : List Nat} (h1 : w64B us = true) (h2 : ordB us = true) (h3 : okJB us = true) (h4 : 1 ≤ us.length) (h5 : us.length ≤ 16) : label_New (up us) = some (some (latF us), 0) :=
  new_ok (w64_of h1) h4 h5 ((ordB_iff (w64_of h1)).1 h2) (okJ_of h3)
/-! ### The known lattices -/
def accL (a : Int) : Nat → Int
  | 0 => 0
  | b + 1 => bif (bAnd .i64 a (b : Int) == a) then bOr .u64 (accL a b) (iShl .u64 (1:Int) (b : Int)) else accL a b
theorem subsets_eq : loopO (ref03_Lattices_l0) ([], (0:Int)) = some (up [255, 170, 204, 136, 240, 160, 192, 128]) := by
  have hin : ∀ a : Nat, a < 8 → loopO (ref03_Lattices_l2 (a : Int)) ((0:Int), (0:Int)) = some (accL (a : Int) 8) := fun a ha => by
    refine loop_range (body := ref03_Lattices_l2 (a : Int)) (fun b => (accL (a : Int) b, (b : Int))) 8 _ (fun b hb => ?_) rfl
    have d : decide ((b : Int) < (8:Int)) = true := decide_eq_true (by omega)
    simp only [ref03_Lattices_l2, d, cond_true, gd_true (gdn b), gd_t, wrap_succ (show b ≤ 4294967295 by omega), accL]
    cases bAnd .i64 (a : Int) (b : Int) == (a : Int) <;> rfl
  have h := loop_range (body := ref03_Lattices_l0) (fun a => (tab a fun x => accL (x : Int) 8, (a : Int))) 8 (tab 8 fun x => accL (x : Int) 8) (fun a ha => by
    have d : decide ((a : Int) < (8:Int)) = true := decide_eq_true (by omega)
    simp only [ref03_Lattices_l0, d, cond_true, hin a ha, Option.bind_some, ref03_Lattices_j1, gd_true (room_one (x := accL (a : Int) 8) (show (tab a fun x => accL (x : Int) 8).length ≤ 1073741823 by rw [tab_len]; omega)), wrap_succ (show a ≤ 4294967295 by omega), tab_succ]) rfl
  refine h.trans (congrArg some ?_)
  decide +kernel
theorem known {k : Int} (hk : 0 ≤ k ∧ k < 256) : ∃ us, ref03_Lattices k = some (up us) ∧ w64 us ∧ 1 ≤ us.length ∧ us.length ≤ 16 ∧ label_New (up us) = some (some (latF us), 0) := by
  obtain ⟨n, rfl⟩ := Int.eq_ofNat_of_zero_le hk.1
  have hm : Int.tmod (n : Int) (5:Int) = ((n % 5 : Nat) : Int) := by rw [Int.tmod_eq_emod_of_nonneg (Int.natCast_nonneg _)]; rfl
  have fin : ∀ us : List Nat, w64B us = true → ordB us = true → okJB us = true → 1 ≤ us.length → us.length ≤ 16 → ref03_Lattices (n : Int) = some (up us) → ∃ us, ref03_Lattices (n : Int) = some (up us) ∧ w64 us ∧ 1 ≤ us.length ∧ us.length ≤ 16 ∧ label_New (up us) = some (some (latF us), 0) := fun us h1 h2 h3 h4 h5 h6 => ⟨us, h6, w64_of h1, h4, h5, new_known h1 h2 h3 h4 h5⟩
  have hlt : n % 5 = 0 ∨ n % 5 = 1 ∨ n % 5 = 2 ∨ n % 5 = 3 ∨ n % 5 = 4 := by omega
  rcases hlt with h | h | h | h | h
  · exact fin [3, 2] (by decide +kernel) (by decide +kernel) (by decide +kernel) (by decide) (by decide) (by rw [ref03_Lattices, hm, h]; rfl)
  · exact fin [1] (by decide +kernel) (by decide +kernel) (by decide +kernel) (by decide) (by decide) (by rw [ref03_Lattices, hm, h]; rfl)
  · exact fin [1, 3, 7] (by decide +kernel) (by decide +kernel) (by decide +kernel) (by decide) (by decide) (by rw [ref03_Lattices, hm, h]; rfl)
  · exact fin [15, 10, 12, 8] (by decide +kernel) (by decide +kernel) (by decide +kernel) (by decide) (by decide) (by rw [ref03_Lattices, hm, h]; rfl)
  · refine fin [255, 170, 204, 136, 240, 160, 192, 128] (by decide +kernel) (by decide +kernel) (by decide +kernel) (by decide) (by decide) ?_
    rw [ref03_Lattices, hm, h]
    exact subsets_eq
/-! ### Labels that are ordered in any way -/
theorem tmod_nat {n k : Nat} : Int.tmod (n : Int) (k : Int) = ((n % k : Nat) : Int) := by rw [Int.tmod_eq_emod_of_nonneg (Int.natCast_nonneg _)]; rfl
end Go.Proofs.Ytkjkbfaaigmmcaa
