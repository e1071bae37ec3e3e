/- What is read at each type of an argument. -/
import Derived.Test.YtkjkbfaaigmmcaaConfigRulesT
import Derived.Test.YtkjkbfaaigmmcaaConfigRulesGv
set_option linter.unusedVariables false
set_option linter.unusedSimpArgs false
set_option maxRecDepth 100000
namespace Go.Proofs.Ytkjkbfaaigmmcaa
open Go Go.V Go.ChangeShapes Go.WideShapes Go.ChangeAt Go.RowKit
theorem Try.own : ownKnob Try.prog.godebug = none := by kernel_rfl
theorem Try.laidOut : laidOutB Try.prog = true := by kernel_rfl
def ok_api_Rule (x : api_Rule) : Prop := (fun n : Int => (Lit.int .u64 n).wf = true) x.ID ∧ (fun n : Int => (Lit.int .i64 n).wf = true) x.From ∧ (fun n : Int => (Lit.int .i64 n).wf = true) x.To ∧ (fun b : Nat => (Lit.float .f64 b).wf = true) x.Lo ∧ (fun b : Nat => (Lit.float .f64 b).wf = true) x.Hi ∧ (fun n : Int => (Lit.int .u64 n).wf = true) x.Authority ∧ (fun n : Int => (Lit.int .i64 n).wf = true) x.Quota
theorem rds_api_Rule {W : World} : Rds Try.prog W ty_api_Rule 39 ok_api_Rule := by
  intro H enc sp fuel cs y h
  obtain ⟨xs, n, _, _, hl, hx, hf⟩ := DataW.trod_struct Try.underlying39 h
  have hl' : cs.length = 7 := hl.trans (by kernel_rfl)
  obtain ⟨y0, k0⟩ := fld_at hf hx (i := 0) rfl 22 0 1 rfl rfl (by kernel_rfl)
  obtain ⟨x0, r0, o0⟩ := (rds_int Try.underlying22) H enc sp _ _ _ k0
  replace r0 := drop_step r0
  obtain ⟨y1, k1⟩ := fld_at hf hx (i := 1) rfl 3 1 1 rfl rfl (by kernel_rfl)
  obtain ⟨x1, r1, o1⟩ := (rds_int Try.underlying3) H enc sp _ _ _ k1
  replace r1 := drop_step r1
  obtain ⟨y2, k2⟩ := fld_at hf hx (i := 2) rfl 3 2 1 rfl rfl (by kernel_rfl)
  obtain ⟨x2, r2, o2⟩ := (rds_int Try.underlying3) H enc sp _ _ _ k2
  replace r2 := drop_step r2
  obtain ⟨y3, k3⟩ := fld_at hf hx (i := 3) rfl 36 3 1 rfl rfl (by kernel_rfl)
  obtain ⟨x3, r3, o3⟩ := (rds_f64 Try.underlying36) H enc sp _ _ _ k3
  replace r3 := drop_step r3
  obtain ⟨y4, k4⟩ := fld_at hf hx (i := 4) rfl 36 4 1 rfl rfl (by kernel_rfl)
  obtain ⟨x4, r4, o4⟩ := (rds_f64 Try.underlying36) H enc sp _ _ _ k4
  replace r4 := drop_step r4
  obtain ⟨y5, k5⟩ := fld_at hf hx (i := 5) rfl 22 5 1 rfl rfl (by kernel_rfl)
  obtain ⟨x5, r5, o5⟩ := (rds_int Try.underlying22) H enc sp _ _ _ k5
  replace r5 := drop_step r5
  obtain ⟨y6, k6⟩ := fld_at hf hx (i := 6) rfl 3 6 1 rfl rfl (by kernel_rfl)
  obtain ⟨x6, r6, o6⟩ := (rds_int Try.underlying3) H enc sp _ _ _ k6
  replace r6 := drop_step r6
  have e := r0
  rw [show (cs.drop (0 + 1)) = cs.drop 1 from rfl, r1] at e
  rw [show (cs.drop (1 + 1)) = cs.drop 2 from rfl, r2] at e
  rw [show (cs.drop (2 + 1)) = cs.drop 3 from rfl, r3] at e
  rw [show (cs.drop (3 + 1)) = cs.drop 4 from rfl, r4] at e
  rw [show (cs.drop (4 + 1)) = cs.drop 5 from rfl, r5] at e
  rw [show (cs.drop (5 + 1)) = cs.drop 6 from rfl, r6] at e
  rw [List.drop_eq_nil_of_le (by omega : cs.length ≤ 6 + 1), List.drop_zero] at e
  subst e
  exact ⟨⟨x0, x1, x2, x3, x4, x5, x6⟩, rfl, o0, o1, o2, o3, o4, o5, o6⟩
end Go.Proofs.Ytkjkbfaaigmmcaa
