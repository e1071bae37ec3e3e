/- The row of MvccScans: WHATEVER THE INPUT, the law answers true, and the arguments read behind the call as they read before. No condition. -/
import Derived.Test.YtbdnbohbmgmonaaRows
import Derived.Test.YtbdnbohbmgmonaaMvccScansLMvccScans
import Derived.Test.YtbdnbohbmgmonaaMvccScansR1
import Derived.ProofKit
set_option linter.unusedVariables false
set_option linter.unusedSimpArgs false
set_option maxRecDepth 100000
namespace Go.Proofs.Ytbdnbohbmgmonaa
open Go Go.V Go.ChangeShapes Go.WideShapes Go.ChangeAt Go.RowKit
theorem mvccScans_lifted (os : Os) (started : os.Started) (H : Type) (enc : TypeId × Value → H) :
    ReturnsInHanded {} Try.checked os 4 .any (Rows.mvccScansSpec.pre6 enc Try.prog Try.f4 Rows.mvccScansRow.domain false) (Rows.mvccScansSpec.post enc Try.prog Try.f4 false true false false) := by
  refine returnsInHanded_of_change (C := Try.checked) Try.own started (by kernel_rfl) Try.func4
    (ChangeSpec.witness6 (enc := enc) (C := Try.checked) false ⟨#[], #[.slice none 0 0, .float .f64 0, .float .f64 0, .bool false, .int .u64 0, .int .i64 0], []⟩ 8 (by kernel_rfl) (by kernel_rfl) (by kernel_rfl) (by kernel_rfl)) ?_
  intro W base args ds gs before hval0 hW hcnd _
  have hval : ∀ (j : Nat) t v, Try.f4.params[j]? = some t → args[j]? = some v → Value.okWide Try.prog W .any base t v := hval0
  have hW' := hW
  obtain ⟨p, q, hA0, hV, rfl, hfz, hnd⟩ := hW
  have hA : DataW.TrodAll enc Try.prog W 0 (fun _ => true) true Try.f4.params.toList args.toList ds p := hA0
  rw [Try.params4] at hA hval
  obtain ⟨args⟩ := args
  have hA := (show DataW.TrodAll enc Try.prog W 0 (fun _ => true) true [22, 23, 23, 4, 24, 3] args ds p from hA)
  obtain ⟨v0, vs0, d0, ds0, p0, q0, rfl, rfl, rfl, h0, hA⟩ := trodAll_cons hA
  obtain ⟨v1, vs1, d1, ds1, p1, q1, rfl, rfl, rfl, h1, hA⟩ := trodAll_cons hA
  obtain ⟨v2, vs2, d2, ds2, p2, q2, rfl, rfl, rfl, h2, hA⟩ := trodAll_cons hA
  obtain ⟨v3, vs3, d3, ds3, p3, q3, rfl, rfl, rfl, h3, hA⟩ := trodAll_cons hA
  obtain ⟨v4, vs4, d4, ds4, p4, q4, rfl, rfl, rfl, h4, hA⟩ := trodAll_cons hA
  obtain ⟨v5, vs5, d5, ds5, p5, q5, rfl, rfl, rfl, h5, hA⟩ := trodAll_cons hA
  obtain ⟨rfl, rfl, rfl⟩ := trodAll_nil hA
  have w0 := hval 0 22 v0 rfl rfl
  obtain ⟨a0, f0_0, o0⟩ := Rds.ro (rds_slice Try.underlying22 (by kernel_rfl) (by decide) rds_law11_Ver) Try.underlying22 w0 h0
  have w1 := hval 1 23 v1 rfl rfl
  obtain ⟨a1, e1, o1⟩ := Rds.val (rds_f64 Try.underlying23) h1
  rw [okWide_one (k := .i64) (.inr (.inr (.inl Try.underlying23))) w1] at e1
  have e1 : [v1] = _ := e1
  simp only [List.cons.injEq, and_true] at e1
  subst e1
  have w2 := hval 2 23 v2 rfl rfl
  obtain ⟨a2, e2, o2⟩ := Rds.val (rds_f64 Try.underlying23) h2
  rw [okWide_one (k := .i64) (.inr (.inr (.inl Try.underlying23))) w2] at e2
  have e2 : [v2] = _ := e2
  simp only [List.cons.injEq, and_true] at e2
  subst e2
  have w3 := hval 3 4 v3 rfl rfl
  obtain ⟨a3, e3, o3⟩ := Rds.val (rds_bool Try.underlying4) h3
  rw [okWide_one (k := .i64) (.inr (.inl Try.underlying4)) w3] at e3
  have e3 : [v3] = _ := e3
  simp only [List.cons.injEq, and_true] at e3
  subst e3
  have w4 := hval 4 24 v4 rfl rfl
  obtain ⟨a4, e4, o4⟩ := Rds.val (rds_int Try.underlying24) h4
  rw [okWide_one (k := .u64) (.inl Try.underlying24) w4] at e4
  have e4 : [v4] = _ := e4
  simp only [List.cons.injEq, and_true] at e4
  subst e4
  have w5 := hval 5 3 v5 rfl rfl
  obtain ⟨a5, e5, o5⟩ := Rds.val (rds_int Try.underlying3) h5
  rw [okWide_one (k := .i64) (.inl Try.underlying3) w5] at e5
  have e5 : [v5] = _ := e5
  simp only [List.cons.injEq, and_true] at e5
  subst e5
  refine (law11_MvccScans_ref (w0 := W) (I := hl W) (R := emp) f0_0 (St.start W) (mvccScans_plain o0 o1 o2 o3 o4 o5)).mono fun e W' he => ?_
  obtain ⟨_, rfl, hI, hst⟩ := he
  exact ⟨_, rfl, law_post hW' Try.laidOut (by kernel_rfl) rfl (by kernel_rfl) Try.underlying4 ⟨rfl, rfl, rfl⟩ (hst.below hI)⟩

/-- THE ROW of MvccScans. -/
theorem mvccScans_holds : Rows.MvccScansSaid :=
  OpenClaim.holds_of_wide 4 Try.f4 rfl rfl rfl rfl rfl rfl rfl ⟨rfl, rfl, rfl, rfl, rfl⟩ rfl rfl rfl rfl rfl (by kernel_rfl) Try.func4 (by kernel_rfl)
    (of_decide_eq_true (by kernel_rfl)) (by unfold Func.isWrapper; first | (rw [if_pos (by decide +kernel)]; kernel_rfl) | (rw [if_neg (by decide +kernel)]; exact ⟨rfl, rfl⟩))
    (fun os started H enc _ => mvccScans_lifted os started H enc)
end Go.Proofs.Ytbdnbohbmgmonaa
