/- The row of MvccJunk: WHATEVER THE INPUT, the law answers true, and the arguments read behind the call as they read before. No condition. -/
import Derived.Test.YtbdnbohbmgmonaaRows
import Derived.Test.YtbdnbohbmgmonaaMvccJunkLMvccJunk
import Derived.Test.YtbdnbohbmgmonaaMvccJunkR1
import Derived.ProofKit
set_option linter.unusedVariables false
set_option linter.unusedSimpArgs false
set_option maxRecDepth 100000
namespace Go.Proofs.Ytbdnbohbmgmonaa
open Go Go.V Go.ChangeShapes Go.WideShapes Go.ChangeAt Go.RowKit
theorem mvccJunk_lifted (os : Os) (started : os.Started) (H : Type) (enc : TypeId × Value → H) :
    ReturnsInHanded {} Try.checked os 7 .any (Rows.mvccJunkSpec.pre6 enc Try.prog Try.f7 Rows.mvccJunkRow.domain false) (Rows.mvccJunkSpec.post enc Try.prog Try.f7 false true false false) := by
  refine returnsInHanded_of_change (C := Try.checked) Try.own started (by kernel_rfl) Try.func7
    (ChangeSpec.witness6 (enc := enc) (C := Try.checked) false ⟨#[], #[.slice none 0 0, .slice none 0 0, .int .u16 0, .int .u8 0], []⟩ 8 (by kernel_rfl) (by kernel_rfl) (by kernel_rfl) (by kernel_rfl)) ?_
  intro W base args ds gs before hval0 hW hcnd _
  have hval : ∀ (j : Nat) t v, Try.f7.params[j]? = some t → args[j]? = some v → Value.okWide Try.prog W .any base t v := hval0
  have hW' := hW
  obtain ⟨p, q, hA0, hV, rfl, hfz, hnd⟩ := hW
  have hA : DataW.TrodAll enc Try.prog W 0 (fun _ => true) true Try.f7.params.toList args.toList ds p := hA0
  rw [Try.params7] at hA hval
  obtain ⟨args⟩ := args
  have hA := (show DataW.TrodAll enc Try.prog W 0 (fun _ => true) true [32, 22, 57, 5] args ds p from hA)
  obtain ⟨v0, vs0, d0, ds0, p0, q0, rfl, rfl, rfl, h0, hA⟩ := trodAll_cons hA
  obtain ⟨v1, vs1, d1, ds1, p1, q1, rfl, rfl, rfl, h1, hA⟩ := trodAll_cons hA
  obtain ⟨v2, vs2, d2, ds2, p2, q2, rfl, rfl, rfl, h2, hA⟩ := trodAll_cons hA
  obtain ⟨v3, vs3, d3, ds3, p3, q3, rfl, rfl, rfl, h3, hA⟩ := trodAll_cons hA
  obtain ⟨rfl, rfl, rfl⟩ := trodAll_nil hA
  have w0 := hval 0 32 v0 rfl rfl
  obtain ⟨a0, f0_0, o0⟩ := Rds.ro (rds_slice Try.underlying32 (by kernel_rfl) (by decide) (rds_int Try.underlying5)) Try.underlying32 w0 h0
  have w1 := hval 1 22 v1 rfl rfl
  obtain ⟨a1, f1_0, o1⟩ := Rds.ro (rds_slice Try.underlying22 (by kernel_rfl) (by decide) rds_law11_Ver) Try.underlying22 w1 h1
  have w2 := hval 2 57 v2 rfl rfl
  obtain ⟨a2, e2, o2⟩ := Rds.val (rds_int Try.underlying57) h2
  rw [okWide_one (k := .u16) (.inl Try.underlying57) w2] at e2
  have e2 : [v2] = _ := e2
  simp only [List.cons.injEq, and_true] at e2
  subst e2
  have w3 := hval 3 5 v3 rfl rfl
  obtain ⟨a3, e3, o3⟩ := Rds.val (rds_int Try.underlying5) h3
  rw [okWide_one (k := .u8) (.inl Try.underlying5) w3] at e3
  have e3 : [v3] = _ := e3
  simp only [List.cons.injEq, and_true] at e3
  subst e3
  refine (law11_MvccJunk_ref (w0 := W) (I := hl W) (R := emp) f0_0 f1_0 (St.start W) (mvccJunk_plain o0 o1 o2 o3)).mono fun e W' he => ?_
  obtain ⟨_, rfl, hI, hst⟩ := he
  exact ⟨_, rfl, law_post hW' Try.laidOut (by kernel_rfl) rfl (by kernel_rfl) Try.underlying4 ⟨rfl, rfl, rfl⟩ (hst.below hI)⟩

/-- THE ROW of MvccJunk. -/
theorem mvccJunk_holds : Rows.MvccJunkSaid :=
  OpenClaim.holds_of_wide 7 Try.f7 rfl rfl rfl rfl rfl rfl rfl ⟨rfl, rfl, rfl, rfl, rfl⟩ rfl rfl rfl rfl rfl (by kernel_rfl) Try.func7 (by kernel_rfl)
    (of_decide_eq_true (by kernel_rfl)) (by unfold Func.isWrapper; first | (rw [if_pos (by decide +kernel)]; kernel_rfl) | (rw [if_neg (by decide +kernel)]; exact ⟨rfl, rfl⟩))
    (fun os started H enc _ => mvccJunk_lifted os started H enc)
end Go.Proofs.Ytbdnbohbmgmonaa
