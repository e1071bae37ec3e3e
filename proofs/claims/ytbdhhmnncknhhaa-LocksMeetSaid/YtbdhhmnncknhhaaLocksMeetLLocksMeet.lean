/- Can't any two holds stand side by side, in whichever order; are they one? The plain law. -/
import Derived.Test.YtbdhhmnncknhhaaLocksMeetLkG
set_option linter.unusedVariables false
set_option linter.unusedSimpArgs false
set_option maxRecDepth 100000
namespace Go.Proofs.Ytbdhhmnncknhhaa
open Go Go.V
theorem locksMeet_plain {a0 a1 : api_Hold} {a2 : List Int} (o0 : ok_api_Hold a0) (o1 : ok_api_Hold a1) (o2 : a2.length ≤ maxLen ∧ ∀ x ∈ a2, (Lit.int .u8 x).wf = true) : law12_LocksMeet a0 a1 a2 = some true := by
  unfold law12_LocksMeet
  simp only [lk_awake, Option.bind_some, Bool.not_true, cond_false, short_eq]
  by_cases s0 : a0.Gets.length ≤ 32 ∧ a0.Scans.length ≤ 32 ∧ a0.Puts.length ≤ 32 ∧ a0.Data.length ≤ 257
  rotate_left
  · rw [tr_f s0]; rfl
  by_cases s1 : a1.Gets.length ≤ 32 ∧ a1.Scans.length ≤ 32 ∧ a1.Puts.length ≤ 32 ∧ a1.Data.length ≤ 257
  rotate_left
  · rw [tr_t s0, tr_f s1]; rfl
  rw [tr_t s0, tr_t s1]
  simp only [Bool.not_true, cond_false]
  cases h0 : decide ((a2.length : Int) > (100:Int)) with
  | true => rfl
  | false =>
  have h0 := of_decide_eq_false h0
  have ga := holdG_of o0 s0
  have gb := holdG_of o1 s1
  obtain ⟨c, t1, e1, hc, ht1⟩ := TP.hold { L := a2, I := 0 } (tape_of o2 (by omega))
  obtain ⟨d, t2, e2, hd, ht2⟩ := TP.hold t1 ht1
  have gc := hc.1
  have gd_ := hd.1
  simp only [cond_false, e1, e2, Option.bind_some, lsame_eq ga gb, same_hold ga gb, lsame_eq ga ga, lsame_eq gc gd_, same_hold gc gd_, meet_eq ga gb, meet_req ga gb, meet_eq gb ga, meet_req gb ga, meet_eq gc gd_, meet_req gc gd_, meet_eq ga gc, meet_req ga gc, tr_tt, mtB_comm a1 a0, BEq.rfl, Bool.not_true, cond_true]
end Go.Proofs.Ytbdhhmnncknhhaa
