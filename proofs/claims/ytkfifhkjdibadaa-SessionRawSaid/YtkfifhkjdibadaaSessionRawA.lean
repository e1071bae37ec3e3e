/- What is read at each type of an argument. -/
import Derived.Test.YtkfifhkjdibadaaSessionRawT
import Derived.Test.YtkfifhkjdibadaaSessionRawGv
set_option linter.unusedVariables false
set_option linter.unusedSimpArgs false
set_option maxRecDepth 100000
namespace Go.Proofs.Ytkfifhkjdibadaa
open Go Go.V Go.ChangeShapes Go.WideShapes Go.ChangeAt Go.RowKit
theorem Try.own : ownKnob Try.prog.godebug = none := by kernel_rfl
theorem Try.laidOut : laidOutB Try.prog = true := by kernel_rfl
def ok_api_Got (x : api_Got) : Prop := (fun _ : Bool => True) x.Has ∧ (fun xs : (List Int) => xs.length ≤ maxLen ∧ ∀ x ∈ xs, (fun n : Int => (Lit.int .u8 n).wf = true) x) x.Val
theorem rds_api_Got {W : World} : Rds Try.prog W ty_api_Got 59 ok_api_Got := by
  intro H enc sp fuel cs y h
  obtain ⟨xs, n, _, _, hl, hx, hf⟩ := DataW.trod_struct Try.underlying59 h
  have hl' : cs.length = 2 := hl.trans (by kernel_rfl)
  obtain ⟨y0, k0⟩ := fld_at hf hx (i := 0) rfl 4 0 1 rfl rfl (by kernel_rfl)
  obtain ⟨x0, r0, o0⟩ := (rds_bool Try.underlying4) H enc sp _ _ _ k0
  replace r0 := drop_step r0
  obtain ⟨y1, k1⟩ := fld_at hf hx (i := 1) rfl 22 1 1 rfl rfl (by kernel_rfl)
  obtain ⟨x1, r1, o1⟩ := (rds_slice Try.underlying22 (by kernel_rfl) (by decide) (rds_int Try.underlying5)) H enc sp _ _ _ k1
  obtain ⟨w1_0, r1, s1_0, q1_0⟩ := r1
  replace r1 := drop_step r1
  have e := r0
  rw [show (cs.drop (0 + 1)) = cs.drop 1 from rfl, r1] at e
  rw [List.drop_eq_nil_of_le (by omega : cs.length ≤ 1 + 1), List.drop_zero] at e
  subst e
  exact ⟨⟨x0, x1⟩, ⟨w1_0, rfl, s1_0, q1_0⟩, o0, o1⟩
def ok_api_Pair (x : api_Pair) : Prop := (fun b : Nat => (Lit.float .f64 b).wf = true) x.At ∧ (fun xs : (List Int) => xs.length ≤ maxLen ∧ ∀ x ∈ xs, (fun n : Int => (Lit.int .u8 n).wf = true) x) x.Val
theorem rds_api_Pair {W : World} : Rds Try.prog W ty_api_Pair 64 ok_api_Pair := by
  intro H enc sp fuel cs y h
  obtain ⟨xs, n, _, _, hl, hx, hf⟩ := DataW.trod_struct Try.underlying64 h
  have hl' : cs.length = 2 := hl.trans (by kernel_rfl)
  obtain ⟨y0, k0⟩ := fld_at hf hx (i := 0) rfl 61 0 1 rfl rfl (by kernel_rfl)
  obtain ⟨x0, r0, o0⟩ := (rds_f64 Try.underlying61) H enc sp _ _ _ k0
  replace r0 := drop_step r0
  obtain ⟨y1, k1⟩ := fld_at hf hx (i := 1) rfl 22 1 1 rfl rfl (by kernel_rfl)
  obtain ⟨x1, r1, o1⟩ := (rds_slice Try.underlying22 (by kernel_rfl) (by decide) (rds_int Try.underlying5)) H enc sp _ _ _ k1
  obtain ⟨w1_0, r1, s1_0, q1_0⟩ := r1
  replace r1 := drop_step r1
  have e := r0
  rw [show (cs.drop (0 + 1)) = cs.drop 1 from rfl, r1] at e
  rw [List.drop_eq_nil_of_le (by omega : cs.length ≤ 1 + 1), List.drop_zero] at e
  subst e
  exact ⟨⟨x0, x1⟩, ⟨w1_0, rfl, s1_0, q1_0⟩, o0, o1⟩
def ok_api_Reply (x : api_Reply) : Prop := (fun n : Int => (Lit.int .i64 n).wf = true) x.E ∧ (fun n : Int => (Lit.int .u64 n).wf = true) x.Epoch ∧ (fun n : Int => (Lit.int .u64 n).wf = true) x.Index ∧ (fun xs : (List api_Got) => xs.length ≤ maxLen ∧ ∀ x ∈ xs, ok_api_Got x) x.Gots ∧ (fun xs : (List (List api_Pair)) => xs.length ≤ maxLen ∧ ∀ x ∈ xs, (fun xs : (List api_Pair) => xs.length ≤ maxLen ∧ ∀ x ∈ xs, ok_api_Pair x) x) x.Scans
theorem rds_api_Reply {W : World} : Rds Try.prog W ty_api_Reply 36 ok_api_Reply := by
  intro H enc sp fuel cs y h
  obtain ⟨xs, n, _, _, hl, hx, hf⟩ := DataW.trod_struct Try.underlying36 h
  have hl' : cs.length = 5 := hl.trans (by kernel_rfl)
  obtain ⟨y0, k0⟩ := fld_at hf hx (i := 0) rfl 32 0 1 rfl rfl (by kernel_rfl)
  obtain ⟨x0, r0, o0⟩ := (rds_int Try.underlying32) H enc sp _ _ _ k0
  replace r0 := drop_step r0
  obtain ⟨y1, k1⟩ := fld_at hf hx (i := 1) rfl 30 1 1 rfl rfl (by kernel_rfl)
  obtain ⟨x1, r1, o1⟩ := (rds_int Try.underlying30) H enc sp _ _ _ k1
  replace r1 := drop_step r1
  obtain ⟨y2, k2⟩ := fld_at hf hx (i := 2) rfl 30 2 1 rfl rfl (by kernel_rfl)
  obtain ⟨x2, r2, o2⟩ := (rds_int Try.underlying30) H enc sp _ _ _ k2
  replace r2 := drop_step r2
  obtain ⟨y3, k3⟩ := fld_at hf hx (i := 3) rfl 33 3 1 rfl rfl (by kernel_rfl)
  obtain ⟨x3, r3, o3⟩ := (rds_slice Try.underlying33 (by kernel_rfl) (by decide) rds_api_Got) H enc sp _ _ _ k3
  obtain ⟨w3_0, r3, s3_0, q3_0⟩ := r3
  replace r3 := drop_step r3
  obtain ⟨y4, k4⟩ := fld_at hf hx (i := 4) rfl 34 4 1 rfl rfl (by kernel_rfl)
  obtain ⟨x4, r4, o4⟩ := (rds_slice Try.underlying34 (by kernel_rfl) (by decide) (rds_slice Try.underlying60 (by kernel_rfl) (by decide) rds_api_Pair)) H enc sp _ _ _ k4
  obtain ⟨w4_0, r4, s4_0, q4_0⟩ := r4
  replace r4 := drop_step r4
  have e := r0
  rw [show (cs.drop (0 + 1)) = cs.drop 1 from rfl, r1] at e
  rw [show (cs.drop (1 + 1)) = cs.drop 2 from rfl, r2] at e
  rw [show (cs.drop (2 + 1)) = cs.drop 3 from rfl, r3] at e
  rw [show (cs.drop (3 + 1)) = cs.drop 4 from rfl, r4] at e
  rw [List.drop_eq_nil_of_le (by omega : cs.length ≤ 4 + 1), List.drop_zero] at e
  subst e
  exact ⟨⟨x0, x1, x2, x3, x4⟩, ⟨w3_0, w4_0, rfl, s3_0, s4_0, q3_0, q4_0⟩, o0, o1, o2, o3, o4⟩
end Go.Proofs.Ytkfifhkjdibadaa
