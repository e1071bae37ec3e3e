/- The row of LocksKeeps: WHATEVER THE INPUT, the law answers true, and the arguments read behind the call as they read before. No condition. -/
import Derived.Test.YtbdhhmnncknhhaaRows
import Derived.Test.YtbdhhmnncknhhaaLocksKeepsLLocksKeeps
import Derived.Test.YtbdhhmnncknhhaaLocksKeepsR1
import Derived.ProofKit
set_option linter.unusedVariables false
set_option linter.unusedSimpArgs false
set_option maxRecDepth 100000
namespace Go.Proofs.Ytbdhhmnncknhhaa
open Go Go.V Go.ChangeShapes Go.WideShapes Go.ChangeAt Go.RowKit
theorem locksKeeps_lifted (os : Os) (started : os.Started) (H : Type) (enc : TypeId × Value → H) :
    ReturnsInHanded {} Try.checked os 6 .any (Rows.locksKeepsSpec.pre6 enc Try.prog Try.f6 Rows.locksKeepsRow.domain false) (Rows.locksKeepsSpec.post enc Try.prog Try.f6 false true false false) := by
  refine returnsInHanded_of_change (C := Try.checked) Try.own started (by kernel_rfl) Try.func6
    (ChangeSpec.witness6 (enc := enc) (C := Try.checked) false ⟨#[], #[.float .f64 0, .float .f64 0, .int .u64 0], []⟩ 8 (by kernel_rfl) (by kernel_rfl) (by kernel_rfl) (by kernel_rfl)) ?_
  intro W base args ds gs before hval0 hW hcnd _
  have hval : ∀ (j : Nat) t v, Try.f6.params[j]? = some t → args[j]? = some v → Value.okWide Try.prog W .any base t v := hval0
  have hW' := hW
  obtain ⟨p, q, hA0, hV, rfl, hfz, hnd⟩ := hW
  have hA : DataW.TrodAll enc Try.prog W 0 (fun _ => true) true Try.f6.params.toList args.toList ds p := hA0
  rw [Try.params6] at hA hval
  obtain ⟨args⟩ := args
  have hA := (show DataW.TrodAll enc Try.prog W 0 (fun _ => true) true [57, 57, 27] args ds p from hA)
  obtain ⟨v0, vs0, d0, ds0, p0, q0, rfl, rfl, rfl, h0, hA⟩ := trodAll_cons hA
  obtain ⟨v1, vs1, d1, ds1, p1, q1, rfl, rfl, rfl, h1, hA⟩ := trodAll_cons hA
  obtain ⟨v2, vs2, d2, ds2, p2, q2, rfl, rfl, rfl, h2, hA⟩ := trodAll_cons hA
  obtain ⟨rfl, rfl, rfl⟩ := trodAll_nil hA
  have w0 := hval 0 57 v0 rfl rfl
  obtain ⟨a0, e0, o0⟩ := Rds.val (rds_f64 Try.underlying57) h0
  rw [okWide_one (k := .i64) (.inr (.inr (.inl Try.underlying57))) w0] at e0
  have e0 : [v0] = _ := e0
  simp only [List.cons.injEq, and_true] at e0
  subst e0
  have w1 := hval 1 57 v1 rfl rfl
  obtain ⟨a1, e1, o1⟩ := Rds.val (rds_f64 Try.underlying57) h1
  rw [okWide_one (k := .i64) (.inr (.inr (.inl Try.underlying57))) w1] at e1
  have e1 : [v1] = _ := e1
  simp only [List.cons.injEq, and_true] at e1
  subst e1
  have w2 := hval 2 27 v2 rfl rfl
  obtain ⟨a2, e2, o2⟩ := Rds.val (rds_int Try.underlying27) h2
  rw [okWide_one (k := .u64) (.inl Try.underlying27) w2] at e2
  have e2 : [v2] = _ := e2
  simp only [List.cons.injEq, and_true] at e2
  subst e2
  refine (law12_LocksKeeps_ref (w0 := W) (I := hl W) (R := emp) (St.start W) (locksKeeps_plain o0 o1 o2)).mono fun e W' he => ?_
  obtain ⟨_, rfl, hI, hst⟩ := he
  exact ⟨_, rfl, law_post hW' Try.laidOut (by kernel_rfl) rfl (by kernel_rfl) Try.underlying4 ⟨rfl, rfl, rfl⟩ (hst.below hI)⟩

/-- THE ROW of LocksKeeps. -/
theorem locksKeeps_holds : Rows.LocksKeepsSaid :=
  OpenClaim.holds_of_wide 6 Try.f6 rfl rfl rfl rfl rfl rfl rfl ⟨rfl, rfl, rfl, rfl, rfl⟩ rfl rfl rfl rfl rfl (by kernel_rfl) Try.func6 (by kernel_rfl)
    (of_decide_eq_true (by kernel_rfl)) (by unfold Func.isWrapper; first | (rw [if_pos (by decide +kernel)]; kernel_rfl) | (rw [if_neg (by decide +kernel)]; exact ⟨rfl, rfl⟩))
    (fun os started H enc _ => locksKeeps_lifted os started H enc)
end Go.Proofs.Ytbdhhmnncknhhaa
