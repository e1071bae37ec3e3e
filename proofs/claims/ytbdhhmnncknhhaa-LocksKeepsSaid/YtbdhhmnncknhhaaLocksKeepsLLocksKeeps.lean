/- What was handed in may be written over: the plain law. -/
import Derived.Test.YtbdhhmnncknhhaaLocksKeepsLkG
set_option linter.unusedVariables false
set_option linter.unusedSimpArgs false
set_option maxRecDepth 100000
namespace Go.Proofs.Ytbdhhmnncknhhaa
open Go Go.V
theorem locksKeeps_plain {a0 a1 : Nat} {a2 : Int} (o0 : (Lit.float .f64 a0).wf = true) (o1 : (Lit.float .f64 a1).wf = true) (o2 : (Lit.int .u64 a2).wf = true) : law12_LocksKeeps a0 a1 a2 = some true := by
  obtain ⟨x, hx⟩ : ∃ x : api_Hold, x = { ID := { Session := 1, Seq := 1 }, Epoch := a2, Gets := [], Scans := [], Puts := [a0], Data := [100] } := ⟨_, rfl⟩
  have gx : holdG x := by
    subst hx
    have h1 : isU 8 1 := ⟨by decide, by decide⟩
    exact ⟨h1, h1, lit_8 o2, fun y h => (by cases h), fun y h => (by cases h), fun y h => by rw [List.mem_singleton.1 h]; exact f64_lt o0, Nat.zero_le _, Nat.zero_le _, by show 1 ≤ 32; omega, by show 1 ≤ 257; omega, fun y h => by rw [List.mem_singleton.1 h]; exact ⟨by decide, by decide⟩⟩
  have hid : x.ID = { Session := 1, Seq := 1 } := by subst hx; rfl
  have ht := take_eq tab_nil (Nat.zero_le _) gx
  rw [show ([] : List api_Hold).any (bars x) = false from rfl] at ht
  simp only [Bool.false_eq_true, if_false] at ht
  have hG := tabG_put tab_nil gx (by simp)
  have hg := get_eq hG gx.id
  have hl := look_put (k := kid) rise_nil x (idk x.ID)
  rw [if_pos (show idk x.ID = kid x from rfl)] at hl
  rw [hl] at hg
  have hs : ref11_SameHold x x = some true := by rw [same_hold gx gx, tr_refl]
  have g0 : geto [a0] (0:Int) = some a0 := rfl
  have g1 : geto [(100:Int)] (0:Int) = some 100 := rfl
  unfold law12_LocksKeeps
  simp only [locks_New, Option.bind_some]
  rw [← hx, ht]
  simp only [Option.bind_some, g0, g1]
  rw [show ({ Session := 1, Seq := 1 } : api_ID) = x.ID from hid.symm, hg]
  simp only [Option.bind_some, lk_awake, cond_true, hs]
  simp only [locks_Table_Take, locks_Table_Drop, locks_Table_find, locks_Table_Len, locks_Table_All, locks_Table_Until, Option.bind_some]
  have ha : loopO (locks_Table_All_l0 (0:Int)) () = some ([] : List api_ID) := by rw [loopO_eq]; rfl
  rw [ha]
  rfl
end Go.Proofs.Ytbdhhmnncknhhaa
