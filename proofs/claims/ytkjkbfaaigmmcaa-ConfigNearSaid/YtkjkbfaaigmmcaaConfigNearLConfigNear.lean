/- Configs that are right but for one number: the plain law. -/
import Derived.Test.YtkjkbfaaigmmcaaConfigNearCgA
set_option linter.unusedVariables false
set_option linter.unusedSimpArgs false
set_option maxRecDepth 100000
namespace Go.Proofs.Ytkjkbfaaigmmcaa
open Go Go.V
theorem fOfInt_lt (n : Int) : isF (fOfInt n) := by
  have hi : FloatKind.f64.format.infRung = 9218868437227405312 := by decide
  have hs : FloatKind.f64.format.signWeight = 9223372036854775808 := by decide
  have key : ∀ (b : Bool) (r : Nat), r ≤ 9218868437227405312 → FloatKind.f64.format.word b r < 18446744073709551616 := fun b r hr => by
    unfold Ieee.Format.word
    rw [hs]
    split <;> omega
  show FloatKind.f64.format.nearest (decide (n < 0)) n.natAbs 0 < 18446744073709551616
  unfold Ieee.Format.nearest
  split
  · exact key _ _ (by omega)
  · refine key _ _ ?_
    rw [← hi]; exact Nat.min_le_right _ _
theorem configNear_plain {a0 a1 a2 : Int} (o0 : (Lit.int .u8 a0).wf = true) (o1 : (Lit.int .u8 a1).wf = true) (o2 : (Lit.int .i64 a2).wf = true) : law04_ConfigNear a0 a1 a2 = some true := by
  obtain ⟨us, n, cuts, h1, hw, _, _, _, _, hcuts⟩ := small_eq (lit_u8.1 o0)
  have hf : ∀ x ∈ cuts, isF x := fun x hx => by
    rcases hcuts with rfl | rfl
    · cases hx
    · rw [List.mem_singleton.1 hx]; exact isF0
  have hl : cuts.length ≤ 1000 := by rcases hcuts with rfl | rfl <;> simp
  have fin : ∀ c : api_Config, c.Up = up us → c.Cuts.length ≤ 1000 → (∀ x ∈ c.Cuts, isF x) → law04_ConfigNear_j0 c = some true := fun c e1 e2 e3 => by
    obtain ⟨r, n, g1, g2, g3, g4⟩ := chk_law c e1 hw e2 e3
    simp only [law04_ConfigNear_j0, g1, g2, g3, Option.bind_some, cg_awake, cond_true, BEq.rfl, g4]
  simp only [law04_ConfigNear, h1, Option.bind_some]
  cases Int.tmod a1 8 == 0 with
  | true => exact fin _ rfl hl hf
  | false =>
  cases Int.tmod a1 8 == 1 with
  | true => exact fin _ rfl hl hf
  | false =>
  cases Int.tmod a1 8 == 2 with
  | true => exact fin _ rfl hl hf
  | false =>
  cases Int.tmod a1 8 == 3 with
  | true => exact fin _ rfl hl hf
  | false =>
  cases Int.tmod a1 8 == 4 with
  | true => exact fin _ rfl hl hf
  | false =>
  cases Int.tmod a1 8 == 5 with
  | true => exact fin _ rfl hl hf
  | false =>
  cases Int.tmod a1 8 == 6 with
  | true => exact fin _ rfl hl hf
  | false =>
    refine fin _ rfl (by simp) fun x hx => ?_
    rcases List.mem_cons.1 hx with rfl | hx
    · exact isF0
    · rw [List.mem_singleton.1 hx]; exact fOfInt_lt a2
end Go.Proofs.Ytkjkbfaaigmmcaa
