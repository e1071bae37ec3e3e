/- What is read at each type of an argument. -/
import Derived.Test.YtbdnbohbmgmonaaMvccBytesT
import Derived.Test.YtbdnbohbmgmonaaMvccBytesGv
set_option linter.unusedVariables false
set_option linter.unusedSimpArgs false
set_option maxRecDepth 100000
namespace Go.Proofs.Ytbdnbohbmgmonaa
open Go Go.V Go.ChangeShapes Go.WideShapes Go.ChangeAt Go.RowKit
theorem Try.own : ownKnob Try.prog.godebug = none := by kernel_rfl
theorem Try.laidOut : laidOutB Try.prog = true := by kernel_rfl
def ok_law11_Ver (x : law11_Ver) : Prop := (fun n : Int => (Lit.int .u8 n).wf = true) x.At ∧ (fun b : Nat => (Lit.float .f64 b).wf = true) x.X ∧ (fun n : Int => (Lit.int .u8 n).wf = true) x.E ∧ (fun n : Int => (Lit.int .u8 n).wf = true) x.I ∧ (fun _ : Bool => True) x.Del ∧ (fun xs : (List Int) => xs.length ≤ maxLen ∧ ∀ x ∈ xs, (fun n : Int => (Lit.int .u8 n).wf = true) x) x.V
theorem rds_law11_Ver {W : World} : Rds Try.prog W ty_law11_Ver 64 ok_law11_Ver := by
  intro H enc sp fuel cs y h
  obtain ⟨xs, n, _, _, hl, hx, hf⟩ := DataW.trod_struct Try.underlying64 h
  have hl' : cs.length = 6 := hl.trans (by kernel_rfl)
  obtain ⟨y0, k0⟩ := fld_at hf hx (i := 0) rfl 5 0 1 rfl rfl (by kernel_rfl)
  obtain ⟨x0, r0, o0⟩ := (rds_int Try.underlying5) H enc sp _ _ _ k0
  replace r0 := drop_step r0
  obtain ⟨y1, k1⟩ := fld_at hf hx (i := 1) rfl 23 1 1 rfl rfl (by kernel_rfl)
  obtain ⟨x1, r1, o1⟩ := (rds_f64 Try.underlying23) H enc sp _ _ _ k1
  replace r1 := drop_step r1
  obtain ⟨y2, k2⟩ := fld_at hf hx (i := 2) rfl 5 2 1 rfl rfl (by kernel_rfl)
  obtain ⟨x2, r2, o2⟩ := (rds_int Try.underlying5) H enc sp _ _ _ k2
  replace r2 := drop_step r2
  obtain ⟨y3, k3⟩ := fld_at hf hx (i := 3) rfl 5 3 1 rfl rfl (by kernel_rfl)
  obtain ⟨x3, r3, o3⟩ := (rds_int Try.underlying5) H enc sp _ _ _ k3
  replace r3 := drop_step r3
  obtain ⟨y4, k4⟩ := fld_at hf hx (i := 4) rfl 4 4 1 rfl rfl (by kernel_rfl)
  obtain ⟨x4, r4, o4⟩ := (rds_bool Try.underlying4) H enc sp _ _ _ k4
  replace r4 := drop_step r4
  obtain ⟨y5, k5⟩ := fld_at hf hx (i := 5) rfl 32 5 1 rfl rfl (by kernel_rfl)
  obtain ⟨x5, r5, o5⟩ := (rds_slice Try.underlying32 (by kernel_rfl) (by decide) (rds_int Try.underlying5)) H enc sp _ _ _ k5
  obtain ⟨w5_0, r5, s5_0, q5_0⟩ := r5
  replace r5 := drop_step r5
  have e := r0
  rw [show (cs.drop (0 + 1)) = cs.drop 1 from rfl, r1] at e
  rw [show (cs.drop (1 + 1)) = cs.drop 2 from rfl, r2] at e
  rw [show (cs.drop (2 + 1)) = cs.drop 3 from rfl, r3] at e
  rw [show (cs.drop (3 + 1)) = cs.drop 4 from rfl, r4] at e
  rw [show (cs.drop (4 + 1)) = cs.drop 5 from rfl, r5] at e
  rw [List.drop_eq_nil_of_le (by omega : cs.length ≤ 5 + 1), List.drop_zero] at e
  subst e
  exact ⟨⟨x0, x1, x2, x3, x4, x5⟩, ⟨w5_0, rfl, s5_0, q5_0⟩, o0, o1, o2, o3, o4, o5⟩
end Go.Proofs.Ytbdnbohbmgmonaa
