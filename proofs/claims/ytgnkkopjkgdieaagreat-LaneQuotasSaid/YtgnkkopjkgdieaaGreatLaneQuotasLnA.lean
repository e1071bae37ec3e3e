/- A lane: the example, and writes that have just so many bytes; plainly. -/
import Derived.Test.YtgnkkopjkgdieaaGreatLaneQuotasFltS
import Derived.Test.YtgnkkopjkgdieaaGreatLaneQuotasFltR
import Derived.Test.YtgnkkopjkgdieaaGreatLaneQuotasGv
set_option linter.unusedVariables false
set_option linter.unusedSimpArgs false
set_option maxRecDepth 100000
namespace Go.Proofs.YtgnkkopjkgdieaaGreat
open Go Go.V
theorem ln_until (e : Int) : locks_Table_Until (some { l := [] }) e = some false := by
  have h : loopO (locks_Table_Until_l0 { l := [] } e) (0:Int) = some (-1) := by rw [loopO_eq]; rfl
  simp only [locks_Table_Until, h, Option.bind_some]; rfl
theorem ln_awake : law16_awake = some true := by
  unfold law16_awake
  simp only [lane_New, mvcc_New, locks_New, session_New, policy_New, Option.bind_some]
  unfold lane_State_Apply
  unfold lane_State_shut lane_State_May
  simp only [ln_until]
  rfl
def padV (n : Nat) (v : List Int) : List Int := (List.range n).map fun i => (v[i]?).getD 0
theorem cpy_pad (n : Nat) (v : List Int) : cpy (List.replicate n (0:Int)) v = padV n v := by
  unfold cpy padV
  rw [List.length_replicate]
  apply List.ext_getElem
  · simp only [List.length_append, List.length_take, List.length_drop, List.length_replicate, List.length_map, List.length_range]; omega
  · intro i h1 h2
    rw [List.getElem_map, List.getElem_range]
    rw [List.length_map, List.length_range] at h2
    by_cases hv : i < v.length
    · rw [List.getElem_append_left (by rw [List.length_take]; omega), List.getElem_take, List.getElem?_eq_getElem hv, Option.getD_some]
    · rw [List.getElem_append_right (by rw [List.length_take]; omega), List.getElem_drop, List.getElem_replicate, List.getElem?_eq_none (by omega), Option.getD_none]
theorem pad_eq (w : api_Write) {n : Int} (hn : n ≤ 1000000) : lane_Pad w n = some { At := w.At, Del := w.Del, Val := if w.Del then [] else padV n.toNat w.Val } := by
  have e0 : (if (0:Int) > n then (0:Int) else n) = ((n.toNat : Nat) : Int) := by split <;> omega
  unfold lane_Pad
  rw [e0, gd_true (by simp [mkOK]; omega), Int.toNat_natCast, cpy_pad]
  cases hd : w.Del <;> simp [lane_Pad_j0, hd]
theorem refpad_eq (w : api_Write) {n : Int} (hn : n ≤ 1000000) : ref16_Pad w n = some { At := w.At, Del := w.Del, Val := if w.Del then [] else padV n.toNat w.Val } := by
  unfold ref16_Pad
  cases hd : w.Del with
  | true =>
    have h : loopO (ref16_Pad_l1 n w) ([], (0:Int)) = some [] := by
      rw [loopO_eq]
      simp only [ref16_Pad_l1, hd, Bool.not_true, cond_false]
      cases decide ((0:Int) < n) <;> rfl
    rw [h, Option.bind_some]
    simp only [ref16_Pad_j0, hd, if_true]
  | false =>
    have h := loop_range (body := ref16_Pad_l1 n w) (fun i => (padV i w.Val, (i : Int))) n.toNat (padV n.toNat w.Val) (fun i hi => by
      have e1 : decide ((i : Int) < n) = true := by simp; omega
      have e2 : (bif decide ((i : Int) < ((w.Val.length : Nat) : Int)) then (geto w.Val (i : Int)).bind fun x => some x else some (0:Int)) = some ((w.Val[i]?).getD 0) := by
        by_cases hv : i < w.Val.length
        · rw [lt_t hv, cond_true, geto_lt hv, Option.bind_some, List.getElem?_eq_getElem hv, Option.getD_some]
        · have : decide ((i : Int) < ((w.Val.length : Nat) : Int)) = false := by simp; omega
          rw [this, cond_false, List.getElem?_eq_none (by omega), Option.getD_none]
      have hl : (padV i w.Val).length = i := by simp [padV]
      simp only [ref16_Pad_l1, e1, cond_true, hd, Bool.not_false, e2, Option.bind_some, ref16_Pad_j2, wrap_succ (show i ≤ 4294967295 by omega)]
      rw [gd_true (room_one (by omega))]
      simp [padV, List.range_succ]) (by
      have e1 : decide (((n.toNat : Nat) : Int) < n) = false := by simp; omega
      simp only [ref16_Pad_l1, e1, cond_false, inrO, Option.map_some])
    have h0 : padV 0 w.Val = [] := rfl
    rw [h0] at h
    rw [show (((0:Nat)):Int) = (0:Int) from rfl] at h
    rw [h, Option.bind_some]
    simp only [ref16_Pad_j0, hd, Bool.false_eq_true, if_false]
end Go.Proofs.YtgnkkopjkgdieaaGreat
