/- The row of LaneEpochs: WHATEVER THE INPUT, the law answers true, and the arguments read behind the call as they read before. No condition. -/
import Derived.Test.YtgnkkopjkgdieaaGreatRows
import Derived.Test.YtgnkkopjkgdieaaGreatLaneEpochsLLaneEpochs
import Derived.Test.YtgnkkopjkgdieaaGreatLaneEpochsR5
import Derived.ProofKit
set_option linter.unusedVariables false
set_option linter.unusedSimpArgs false
set_option maxRecDepth 100000
namespace Go.Proofs.YtgnkkopjkgdieaaGreat
open Go Go.V Go.ChangeShapes Go.WideShapes Go.ChangeAt Go.RowKit
theorem laneEpochs_lifted (os : Os) (started : os.Started) (H : Type) (enc : TypeId × Value → H) :
    ReturnsInHanded {} Tryz.checked os 7 .any (Rows.laneEpochsSpec.pre6 enc Tryz.prog Tryz.f7 Rows.laneEpochsRow.domain false) (Rows.laneEpochsSpec.post enc Tryz.prog Tryz.f7 false true false false) := by
  refine returnsInHanded_of_change (C := Tryz.checked) Tryz.own started (by kernel_rfl) Tryz.func7
    (ChangeSpec.witness6 (enc := enc) (C := Tryz.checked) false ⟨#[], #[.int .u8 0, .slice none 0 0, .int .u8 0], []⟩ 8 (by kernel_rfl) (by kernel_rfl) (by kernel_rfl) (by kernel_rfl)) ?_
  intro W base args ds gs before hval0 hW hcnd _
  have hval : ∀ (j : Nat) t v, Tryz.f7.params[j]? = some t → args[j]? = some v → Value.okWide Tryz.prog W .any base t v := hval0
  have hW' := hW
  obtain ⟨p, q, hA0, hV, rfl, hfz, hnd⟩ := hW
  have hA : DataW.TrodAll enc Tryz.prog W 0 (fun _ => true) true Tryz.f7.params.toList args.toList ds p := hA0
  rw [Tryz.params7] at hA hval
  obtain ⟨args⟩ := args
  have hA := (show DataW.TrodAll enc Tryz.prog W 0 (fun _ => true) true [5, 22, 5] args ds p from hA)
  obtain ⟨v0, vs0, d0, ds0, p0, q0, rfl, rfl, rfl, h0, hA⟩ := trodAll_cons hA
  obtain ⟨v1, vs1, d1, ds1, p1, q1, rfl, rfl, rfl, h1, hA⟩ := trodAll_cons hA
  obtain ⟨v2, vs2, d2, ds2, p2, q2, rfl, rfl, rfl, h2, hA⟩ := trodAll_cons hA
  obtain ⟨rfl, rfl, rfl⟩ := trodAll_nil hA
  have w0 := hval 0 5 v0 rfl rfl
  obtain ⟨a0, e0, o0⟩ := Rds.val (rds_int Tryz.underlying5) h0
  rw [okWide_one (k := .u8) (.inl Tryz.underlying5) w0] at e0
  have e0 : [v0] = _ := e0
  simp only [List.cons.injEq, and_true] at e0
  subst e0
  have w1 := hval 1 22 v1 rfl rfl
  obtain ⟨a1, f1_0, o1⟩ := Rds.ro (rds_slice Tryz.underlying22 (by kernel_rfl) (by decide) (rds_int Tryz.underlying5)) Tryz.underlying22 w1 h1
  have w2 := hval 2 5 v2 rfl rfl
  obtain ⟨a2, e2, o2⟩ := Rds.val (rds_int Tryz.underlying5) h2
  rw [okWide_one (k := .u8) (.inl Tryz.underlying5) w2] at e2
  have e2 : [v2] = _ := e2
  simp only [List.cons.injEq, and_true] at e2
  subst e2
  refine (law16_LaneEpochs_ref (w0 := W) (I := hl W) (R := emp) f1_0 (St.start W) (laneEpochs_plain o0 o1 o2)).mono fun e W' he => ?_
  obtain ⟨_, rfl, hI, hst⟩ := he
  exact ⟨_, rfl, law_post hW' Tryz.laidOut (by kernel_rfl) rfl (by kernel_rfl) Tryz.underlying4 ⟨rfl, rfl, rfl⟩ (hst.below hI)⟩

/-- THE ROW of LaneEpochs. -/
theorem laneEpochs_holds : Rows.LaneEpochsSaid :=
  OpenClaim.holds_of_wide 7 Tryz.f7 rfl rfl rfl rfl rfl rfl rfl ⟨rfl, rfl, rfl, rfl, rfl⟩ rfl rfl rfl rfl rfl (by kernel_rfl) Tryz.func7 (by kernel_rfl)
    (of_decide_eq_true (by kernel_rfl)) (by unfold Func.isWrapper; first | (rw [if_pos (by decide +kernel)]; kernel_rfl) | (rw [if_neg (by decide +kernel)]; exact ⟨rfl, rfl⟩))
    (fun os started H enc _ => laneEpochs_lifted os started H enc)
end Go.Proofs.YtgnkkopjkgdieaaGreat
