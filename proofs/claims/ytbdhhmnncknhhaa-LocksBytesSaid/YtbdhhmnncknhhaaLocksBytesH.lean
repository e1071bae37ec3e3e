/- The row of LocksBytes: WHATEVER THE INPUT, the law answers true, and the arguments read behind the call as they read before. No condition. -/
import Derived.Test.YtbdhhmnncknhhaaRows
import Derived.Test.YtbdhhmnncknhhaaLocksBytesLLocksBytes
import Derived.Test.YtbdhhmnncknhhaaLocksBytesR3
import Derived.ProofKit
set_option linter.unusedVariables false
set_option linter.unusedSimpArgs false
set_option maxRecDepth 100000
namespace Go.Proofs.Ytbdhhmnncknhhaa
open Go Go.V Go.ChangeShapes Go.WideShapes Go.ChangeAt Go.RowKit
theorem locksBytes_lifted (os : Os) (started : os.Started) (H : Type) (enc : TypeId × Value → H) :
    ReturnsInHanded {} Try.checked os 8 .any (Rows.locksBytesSpec.pre6 enc Try.prog Try.f8 Rows.locksBytesRow.domain false) (Rows.locksBytesSpec.post enc Try.prog Try.f8 false true false false) := by
  refine returnsInHanded_of_change (C := Try.checked) Try.own started (by kernel_rfl) Try.func8
    (ChangeSpec.witness6 (enc := enc) (C := Try.checked) false ⟨#[], #[.agg #[.int .u64 0, .int .u64 0, .int .u64 0, .slice none 0 0, .slice none 0 0, .slice none 0 0, .slice none 0 0], .slice none 0 0], []⟩ 8 (by kernel_rfl) (by kernel_rfl) (by kernel_rfl) (by kernel_rfl)) ?_
  intro W base args ds gs before hval0 hW hcnd _
  have hval : ∀ (j : Nat) t v, Try.f8.params[j]? = some t → args[j]? = some v → Value.okWide Try.prog W .any base t v := hval0
  have hW' := hW
  obtain ⟨p, q, hA0, hV, rfl, hfz, hnd⟩ := hW
  have hA : DataW.TrodAll enc Try.prog W 0 (fun _ => true) true Try.f8.params.toList args.toList ds p := hA0
  rw [Try.params8] at hA hval
  obtain ⟨args⟩ := args
  have hA := (show DataW.TrodAll enc Try.prog W 0 (fun _ => true) true [34, 32] args ds p from hA)
  obtain ⟨v0, vs0, d0, ds0, p0, q0, rfl, rfl, rfl, h0, hA⟩ := trodAll_cons hA
  obtain ⟨v1, vs1, d1, ds1, p1, q1, rfl, rfl, rfl, h1, hA⟩ := trodAll_cons hA
  obtain ⟨rfl, rfl, rfl⟩ := trodAll_nil hA
  have w0 := hval 0 34 v0 rfl rfl
  obtain ⟨a0, e0, o0⟩ := Rds.val rds_api_Hold h0
  obtain ⟨⟨cs0⟩, rfl⟩ := okWide_agg Try.underlying34 w0
  obtain ⟨r0_0, r0_1, r0_2, r0_3, e0, f0_0, f0_1, f0_2, f0_3, q0_0, q0_1, q0_2, q0_3⟩ := e0
  have e0 : cs0 = _ := e0
  subst e0
  have w1 := hval 1 32 v1 rfl rfl
  obtain ⟨a1, f1_0, o1⟩ := Rds.ro (rds_slice Try.underlying32 (by kernel_rfl) (by decide) (rds_int Try.underlying5)) Try.underlying32 w1 h1
  refine (law12_LocksBytes_ref (w0 := W) (I := hl W) (R := emp) (f0_0.mono ro_rd) (f0_1.mono ro_rd) (f0_2.mono ro_rd) (f0_3.mono ro_rd) f1_0 (St.start W) (locksBytes_plain o0 o1)).mono fun e W' he => ?_
  obtain ⟨_, rfl, hI, hst⟩ := he
  exact ⟨_, rfl, law_post hW' Try.laidOut (by kernel_rfl) rfl (by kernel_rfl) Try.underlying4 ⟨rfl, rfl, rfl⟩ (hst.below hI)⟩

/-- THE ROW of LocksBytes. -/
theorem locksBytes_holds : Rows.LocksBytesSaid :=
  OpenClaim.holds_of_wide 8 Try.f8 rfl rfl rfl rfl rfl rfl rfl ⟨rfl, rfl, rfl, rfl, rfl⟩ rfl rfl rfl rfl rfl (by kernel_rfl) Try.func8 (by kernel_rfl)
    (of_decide_eq_true (by kernel_rfl)) (by unfold Func.isWrapper; first | (rw [if_pos (by decide +kernel)]; kernel_rfl) | (rw [if_neg (by decide +kernel)]; exact ⟨rfl, rfl⟩))
    (fun os started H enc _ => locksBytes_lifted os started H enc)
end Go.Proofs.Ytbdhhmnncknhhaa
