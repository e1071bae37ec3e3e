/- The row of LaneReads: WHATEVER THE INPUT, the law answers true, and the arguments read behind the call as they read before. No condition. -/
import Derived.Test.YtgnkkopjkgdieaaGreatRows
import Derived.Test.YtgnkkopjkgdieaaGreatLaneReadsLLaneReads
import Derived.Test.YtgnkkopjkgdieaaGreatLaneReadsR5
import Derived.ProofKit
set_option linter.unusedVariables false
set_option linter.unusedSimpArgs false
set_option maxRecDepth 100000
namespace Go.Proofs.YtgnkkopjkgdieaaGreat
open Go Go.V Go.ChangeShapes Go.WideShapes Go.ChangeAt Go.RowKit
theorem laneReads_lifted (os : Os) (started : os.Started) (H : Type) (enc : TypeId × Value → H) :
    ReturnsInHanded {} Tryz.checked os 8 .any (Rows.laneReadsSpec.pre6 enc Tryz.prog Tryz.f8 Rows.laneReadsRow.domain false) (Rows.laneReadsSpec.post enc Tryz.prog Tryz.f8 false true false false) := by
  refine returnsInHanded_of_change (C := Tryz.checked) Tryz.own started (by kernel_rfl) Tryz.func8
    (ChangeSpec.witness6 (enc := enc) (C := Tryz.checked) false ⟨#[], #[.slice none 0 0, .float .f64 0, .float .f64 0], []⟩ 8 (by kernel_rfl) (by kernel_rfl) (by kernel_rfl) (by kernel_rfl)) ?_
  intro W base args ds gs before hval0 hW hcnd _
  have hval : ∀ (j : Nat) t v, Tryz.f8.params[j]? = some t → args[j]? = some v → Value.okWide Tryz.prog W .any base t v := hval0
  have hW' := hW
  obtain ⟨p, q, hA0, hV, rfl, hfz, hnd⟩ := hW
  have hA : DataW.TrodAll enc Tryz.prog W 0 (fun _ => true) true Tryz.f8.params.toList args.toList ds p := hA0
  rw [Tryz.params8] at hA hval
  obtain ⟨args⟩ := args
  have hA := (show DataW.TrodAll enc Tryz.prog W 0 (fun _ => true) true [22, 37, 37] args ds p from hA)
  obtain ⟨v0, vs0, d0, ds0, p0, q0, rfl, rfl, rfl, h0, hA⟩ := trodAll_cons hA
  obtain ⟨v1, vs1, d1, ds1, p1, q1, rfl, rfl, rfl, h1, hA⟩ := trodAll_cons hA
  obtain ⟨v2, vs2, d2, ds2, p2, q2, rfl, rfl, rfl, h2, hA⟩ := trodAll_cons hA
  obtain ⟨rfl, rfl, rfl⟩ := trodAll_nil hA
  have w0 := hval 0 22 v0 rfl rfl
  obtain ⟨a0, f0_0, o0⟩ := Rds.ro (rds_slice Tryz.underlying22 (by kernel_rfl) (by decide) (rds_int Tryz.underlying5)) Tryz.underlying22 w0 h0
  have w1 := hval 1 37 v1 rfl rfl
  obtain ⟨a1, e1, o1⟩ := Rds.val (rds_f64 Tryz.underlying37) h1
  rw [okWide_one (k := .i64) (.inr (.inr (.inl Tryz.underlying37))) w1] at e1
  have e1 : [v1] = _ := e1
  simp only [List.cons.injEq, and_true] at e1
  subst e1
  have w2 := hval 2 37 v2 rfl rfl
  obtain ⟨a2, e2, o2⟩ := Rds.val (rds_f64 Tryz.underlying37) h2
  rw [okWide_one (k := .i64) (.inr (.inr (.inl Tryz.underlying37))) w2] at e2
  have e2 : [v2] = _ := e2
  simp only [List.cons.injEq, and_true] at e2
  subst e2
  refine (law16_LaneReads_ref (w0 := W) (I := hl W) (R := emp) f0_0 (St.start W) (laneReads_plain o0 o1 o2)).mono fun e W' he => ?_
  obtain ⟨_, rfl, hI, hst⟩ := he
  exact ⟨_, rfl, law_post hW' Tryz.laidOut (by kernel_rfl) rfl (by kernel_rfl) Tryz.underlying4 ⟨rfl, rfl, rfl⟩ (hst.below hI)⟩

/-- THE ROW of LaneReads. -/
theorem laneReads_holds : Rows.LaneReadsSaid :=
  OpenClaim.holds_of_wide 8 Tryz.f8 rfl rfl rfl rfl rfl rfl rfl ⟨rfl, rfl, rfl, rfl, rfl⟩ rfl rfl rfl rfl rfl (by kernel_rfl) Tryz.func8 (by kernel_rfl)
    (of_decide_eq_true (by kernel_rfl)) (by unfold Func.isWrapper; first | (rw [if_pos (by decide +kernel)]; kernel_rfl) | (rw [if_neg (by decide +kernel)]; exact ⟨rfl, rfl⟩))
    (fun os started H enc _ => laneReads_lifted os started H enc)
end Go.Proofs.YtgnkkopjkgdieaaGreat
