/- The row of LaneInner: WHATEVER THE INPUT, the law answers true, and the arguments read behind the call as they read before. No condition. -/
import Derived.Test.YtgnkkopjkgdieaaGreatRows
import Derived.Test.YtgnkkopjkgdieaaGreatLaneInnerLLaneInner
import Derived.Test.YtgnkkopjkgdieaaGreatLaneInnerR5
import Derived.ProofKit
set_option linter.unusedVariables false
set_option linter.unusedSimpArgs false
set_option maxRecDepth 100000
namespace Go.Proofs.YtgnkkopjkgdieaaGreat
open Go Go.V Go.ChangeShapes Go.WideShapes Go.ChangeAt Go.RowKit
theorem laneInner_lifted (os : Os) (started : os.Started) (H : Type) (enc : TypeId × Value → H) :
    ReturnsInHanded {} Tryz.checked os 6 .any (Rows.laneInnerSpec.pre6 enc Tryz.prog Tryz.f6 Rows.laneInnerRow.domain false) (Rows.laneInnerSpec.post enc Tryz.prog Tryz.f6 false true false false) := by
  refine returnsInHanded_of_change (C := Tryz.checked) Tryz.own started (by kernel_rfl) Tryz.func6
    (ChangeSpec.witness6 (enc := enc) (C := Tryz.checked) false ⟨#[], #[.int .u64 0, .int .u8 0], []⟩ 8 (by kernel_rfl) (by kernel_rfl) (by kernel_rfl) (by kernel_rfl)) ?_
  intro W base args ds gs before hval0 hW hcnd _
  have hval : ∀ (j : Nat) t v, Tryz.f6.params[j]? = some t → args[j]? = some v → Value.okWide Tryz.prog W .any base t v := hval0
  have hW' := hW
  obtain ⟨p, q, hA0, hV, rfl, hfz, hnd⟩ := hW
  have hA : DataW.TrodAll enc Tryz.prog W 0 (fun _ => true) true Tryz.f6.params.toList args.toList ds p := hA0
  rw [Tryz.params6] at hA hval
  obtain ⟨args⟩ := args
  have hA := (show DataW.TrodAll enc Tryz.prog W 0 (fun _ => true) true [26, 5] args ds p from hA)
  obtain ⟨v0, vs0, d0, ds0, p0, q0, rfl, rfl, rfl, h0, hA⟩ := trodAll_cons hA
  obtain ⟨v1, vs1, d1, ds1, p1, q1, rfl, rfl, rfl, h1, hA⟩ := trodAll_cons hA
  obtain ⟨rfl, rfl, rfl⟩ := trodAll_nil hA
  have w0 := hval 0 26 v0 rfl rfl
  obtain ⟨a0, e0, o0⟩ := Rds.val (rds_int Tryz.underlying26) h0
  rw [okWide_one (k := .u64) (.inl Tryz.underlying26) w0] at e0
  have e0 : [v0] = _ := e0
  simp only [List.cons.injEq, and_true] at e0
  subst e0
  have w1 := hval 1 5 v1 rfl rfl
  obtain ⟨a1, e1, o1⟩ := Rds.val (rds_int Tryz.underlying5) h1
  rw [okWide_one (k := .u8) (.inl Tryz.underlying5) w1] at e1
  have e1 : [v1] = _ := e1
  simp only [List.cons.injEq, and_true] at e1
  subst e1
  refine (law16_LaneInner_ref (w0 := W) (I := hl W) (R := emp) (St.start W) (laneInner_plain o0 o1)).mono fun e W' he => ?_
  obtain ⟨_, rfl, hI, hst⟩ := he
  exact ⟨_, rfl, law_post hW' Tryz.laidOut (by kernel_rfl) rfl (by kernel_rfl) Tryz.underlying4 ⟨rfl, rfl, rfl⟩ (hst.below hI)⟩

/-- THE ROW of LaneInner. -/
theorem laneInner_holds : Rows.LaneInnerSaid :=
  OpenClaim.holds_of_wide 6 Tryz.f6 rfl rfl rfl rfl rfl rfl rfl ⟨rfl, rfl, rfl, rfl, rfl⟩ rfl rfl rfl rfl rfl (by kernel_rfl) Tryz.func6 (by kernel_rfl)
    (of_decide_eq_true (by kernel_rfl)) (by unfold Func.isWrapper; first | (rw [if_pos (by decide +kernel)]; kernel_rfl) | (rw [if_neg (by decide +kernel)]; exact ⟨rfl, rfl⟩))
    (fun os started H enc _ => laneInner_lifted os started H enc)
end Go.Proofs.YtgnkkopjkgdieaaGreat
