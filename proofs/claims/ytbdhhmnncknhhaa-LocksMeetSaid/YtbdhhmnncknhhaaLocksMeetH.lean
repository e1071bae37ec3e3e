/- The row of LocksMeet: WHATEVER THE INPUT, the law answers true, and the arguments read behind the call as they read before. No condition. -/
import Derived.Test.YtbdhhmnncknhhaaRows
import Derived.Test.YtbdhhmnncknhhaaLocksMeetLLocksMeet
import Derived.Test.YtbdhhmnncknhhaaLocksMeetR2
import Derived.ProofKit
set_option linter.unusedVariables false
set_option linter.unusedSimpArgs false
set_option maxRecDepth 100000
namespace Go.Proofs.Ytbdhhmnncknhhaa
open Go Go.V Go.ChangeShapes Go.WideShapes Go.ChangeAt Go.RowKit
theorem locksMeet_lifted (os : Os) (started : os.Started) (H : Type) (enc : TypeId × Value → H) :
    ReturnsInHanded {} Try.checked os 4 .any (Rows.locksMeetSpec.pre6 enc Try.prog Try.f4 Rows.locksMeetRow.domain false) (Rows.locksMeetSpec.post enc Try.prog Try.f4 false true false false) := by
  refine returnsInHanded_of_change (C := Try.checked) Try.own started (by kernel_rfl) Try.func4
    (ChangeSpec.witness6 (enc := enc) (C := Try.checked) false ⟨#[], #[.agg #[.int .u64 0, .int .u64 0, .int .u64 0, .slice none 0 0, .slice none 0 0, .slice none 0 0, .slice none 0 0], .agg #[.int .u64 0, .int .u64 0, .int .u64 0, .slice none 0 0, .slice none 0 0, .slice none 0 0, .slice none 0 0], .slice none 0 0], []⟩ 8 (by kernel_rfl) (by kernel_rfl) (by kernel_rfl) (by kernel_rfl)) ?_
  intro W base args ds gs before hval0 hW hcnd _
  have hval : ∀ (j : Nat) t v, Try.f4.params[j]? = some t → args[j]? = some v → Value.okWide Try.prog W .any base t v := hval0
  have hW' := hW
  obtain ⟨p, q, hA0, hV, rfl, hfz, hnd⟩ := hW
  have hA : DataW.TrodAll enc Try.prog W 0 (fun _ => true) true Try.f4.params.toList args.toList ds p := hA0
  rw [Try.params4] at hA hval
  obtain ⟨args⟩ := args
  have hA := (show DataW.TrodAll enc Try.prog W 0 (fun _ => true) true [34, 34, 32] args ds p from hA)
  obtain ⟨v0, vs0, d0, ds0, p0, q0, rfl, rfl, rfl, h0, hA⟩ := trodAll_cons hA
  obtain ⟨v1, vs1, d1, ds1, p1, q1, rfl, rfl, rfl, h1, hA⟩ := trodAll_cons hA
  obtain ⟨v2, vs2, d2, ds2, p2, q2, rfl, rfl, rfl, h2, hA⟩ := trodAll_cons hA
  obtain ⟨rfl, rfl, rfl⟩ := trodAll_nil hA
  have w0 := hval 0 34 v0 rfl rfl
  obtain ⟨a0, e0, o0⟩ := Rds.val rds_api_Hold h0
  obtain ⟨⟨cs0⟩, rfl⟩ := okWide_agg Try.underlying34 w0
  obtain ⟨r0_0, r0_1, r0_2, r0_3, e0, f0_0, f0_1, f0_2, f0_3, q0_0, q0_1, q0_2, q0_3⟩ := e0
  have e0 : cs0 = _ := e0
  subst e0
  have w1 := hval 1 34 v1 rfl rfl
  obtain ⟨a1, e1, o1⟩ := Rds.val rds_api_Hold h1
  obtain ⟨⟨cs1⟩, rfl⟩ := okWide_agg Try.underlying34 w1
  obtain ⟨r1_0, r1_1, r1_2, r1_3, e1, f1_0, f1_1, f1_2, f1_3, q1_0, q1_1, q1_2, q1_3⟩ := e1
  have e1 : cs1 = _ := e1
  subst e1
  have w2 := hval 2 32 v2 rfl rfl
  obtain ⟨a2, f2_0, o2⟩ := Rds.ro (rds_slice Try.underlying32 (by kernel_rfl) (by decide) (rds_int Try.underlying5)) Try.underlying32 w2 h2
  refine (law12_LocksMeet_ref (w0 := W) (I := hl W) (R := emp) (f0_0.mono ro_rd) (f0_1.mono ro_rd) (f0_2.mono ro_rd) (f0_3.mono ro_rd) (f1_0.mono ro_rd) (f1_1.mono ro_rd) (f1_2.mono ro_rd) (f1_3.mono ro_rd) f2_0 (St.start W) (locksMeet_plain o0 o1 o2)).mono fun e W' he => ?_
  obtain ⟨_, rfl, hI, hst⟩ := he
  exact ⟨_, rfl, law_post hW' Try.laidOut (by kernel_rfl) rfl (by kernel_rfl) Try.underlying4 ⟨rfl, rfl, rfl⟩ (hst.below hI)⟩

/-- THE ROW of LocksMeet. -/
theorem locksMeet_holds : Rows.LocksMeetSaid :=
  OpenClaim.holds_of_wide 4 Try.f4 rfl rfl rfl rfl rfl rfl rfl ⟨rfl, rfl, rfl, rfl, rfl⟩ rfl rfl rfl rfl rfl (by kernel_rfl) Try.func4 (by kernel_rfl)
    (of_decide_eq_true (by kernel_rfl)) (by unfold Func.isWrapper; first | (rw [if_pos (by decide +kernel)]; kernel_rfl) | (rw [if_neg (by decide +kernel)]; exact ⟨rfl, rfl⟩))
    (fun os started H enc _ => locksMeet_lifted os started H enc)
end Go.Proofs.Ytbdhhmnncknhhaa
