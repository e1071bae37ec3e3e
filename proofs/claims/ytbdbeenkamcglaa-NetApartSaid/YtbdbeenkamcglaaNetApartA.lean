/- What is read at each type of an argument. -/
import Derived.Test.YtbdbeenkamcglaaNetApartT
import Derived.Test.YtbdbeenkamcglaaNetApartGv
set_option linter.unusedVariables false
set_option linter.unusedSimpArgs false
set_option maxRecDepth 100000
namespace Go.Proofs.Ytbdbeenkamcglaa
open Go Go.V Go.ChangeShapes Go.WideShapes Go.ChangeAt Go.RowKit
theorem Try.own : ownKnob Try.prog.godebug = none := by kernel_rfl
theorem Try.laidOut : laidOutB Try.prog = true := by kernel_rfl
def ok_net_Link (x : net_Link) : Prop := (fun n : Int => (Lit.int .i64 n).wf = true) x.From ∧ (fun n : Int => (Lit.int .i64 n).wf = true) x.To ∧ (fun n : Int => (Lit.int .i64 n).wf = true) x.Lane
theorem rds_net_Link {W : World} : Rds Try.prog W ty_net_Link 23 ok_net_Link := by
  intro H enc sp fuel cs y h
  obtain ⟨xs, n, _, _, hl, hx, hf⟩ := DataW.trod_struct Try.underlying23 h
  have hl' : cs.length = 3 := hl.trans (by kernel_rfl)
  obtain ⟨y0, k0⟩ := fld_at hf hx (i := 0) rfl 3 0 1 rfl rfl (by kernel_rfl)
  obtain ⟨x0, r0, o0⟩ := (rds_int Try.underlying3) H enc sp _ _ _ k0
  replace r0 := drop_step r0
  obtain ⟨y1, k1⟩ := fld_at hf hx (i := 1) rfl 3 1 1 rfl rfl (by kernel_rfl)
  obtain ⟨x1, r1, o1⟩ := (rds_int Try.underlying3) H enc sp _ _ _ k1
  replace r1 := drop_step r1
  obtain ⟨y2, k2⟩ := fld_at hf hx (i := 2) rfl 3 2 1 rfl rfl (by kernel_rfl)
  obtain ⟨x2, r2, o2⟩ := (rds_int Try.underlying3) H enc sp _ _ _ k2
  replace r2 := drop_step r2
  have e := r0
  rw [show (cs.drop (0 + 1)) = cs.drop 1 from rfl, r1] at e
  rw [show (cs.drop (1 + 1)) = cs.drop 2 from rfl, r2] at e
  rw [List.drop_eq_nil_of_le (by omega : cs.length ≤ 2 + 1), List.drop_zero] at e
  subst e
  exact ⟨⟨x0, x1, x2⟩, rfl, o0, o1, o2⟩
end Go.Proofs.Ytbdbeenkamcglaa
