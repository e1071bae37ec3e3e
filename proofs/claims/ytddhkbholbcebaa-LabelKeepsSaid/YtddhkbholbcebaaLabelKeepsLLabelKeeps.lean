/- What was handed in, and what was told, may be written over: the plain law. -/
import Derived.Test.YtddhkbholbcebaaLabelKeepsLbW
set_option linter.unusedVariables false
set_option linter.unusedSimpArgs false
namespace Go.Proofs.Ytddhkbholbcebaa
open Go Go.V
theorem labelKeeps_plain {a0 : Int} (o0 : (Lit.int .u8 a0).wf = true) : law03_LabelKeeps a0 = some true := by
  obtain ⟨us, h1, hw, h2, h3, h4⟩ := known (lit_u8.1 o0)
  have hc : slices_Clone_int_int (up (srt us)) = some (up (srt us)) := gd_true (room_le (by rw [up_len, srt_len h3]; simp; omega))
  have ho : label_Lattice_Order (some (latF us)) = some (up (srt us)) := by
    show ((slices_Clone_int_int (up (srt us))).bind fun t94 => some t94) = _
    rw [hc]; rfl
  have e0 : (((up (srt us)).length : Int) != ((up us).length : Int)) = false := by rw [up_len, up_len, srt_len h3]; simp
  have hl : loopO (law03_LabelKeeps_l1) ((0:Int), up us, up (srt us)) = some () := by
    have h := loop_inv (body := law03_LabelKeeps_l1) (fun s => ∃ i : Nat, s.1 = (i : Int) ∧ i ≤ us.length ∧ s.2.1.length = us.length ∧ s.2.2.length = us.length) (fun s => ((us.length : Int) - s.1).toNat) (fun r => r = ()) ?_ (s := ((0:Int), up us, up (srt us))) ⟨0, rfl, Nat.zero_le _, up_len _, by rw [up_len, srt_len h3]⟩
    · obtain ⟨r, g1, rfl⟩ := h; exact g1
    rintro ⟨z, A, B⟩ ⟨i, hz, hi, hA, hB⟩
    dsimp only at hz hA hB
    subst hz
    by_cases hlt : i < A.length
    · left
      have hb : i < B.length := by omega
      simp only [law03_LabelKeeps_l1, lt_t hlt, cond_true, geto_lt hlt, geto_lt hb, Option.bind_some, wrap_succ (show i ≤ 4294967295 by omega)]
      exact ⟨_, rfl, ⟨i + 1, rfl, by omega, by simp only [List.length_set]; omega, by simp only [List.length_set]; omega⟩, by dsimp only; omega⟩
    · have e : i = A.length := by omega
      subst e
      exact .inr ⟨(), by simp only [law03_LabelKeeps_l1, lt_f, cond_false]; rfl, rfl⟩
  simp only [law03_LabelKeeps, h1, h4, ho, Option.bind_some, e0, cond_false, hl, law03_LabelKeeps_j0, lb_awake, cond_true, told_eq hw h2 h3]
end Go.Proofs.Ytddhkbholbcebaa
