/- The row of LanePads: WHATEVER THE INPUT, the law answers true, and the arguments read behind the call as they read before. No condition. -/
import Derived.Test.YtgnkkopjkgdieaaGreatRows
import Derived.Test.YtgnkkopjkgdieaaGreatLanePadsLLanePads
import Derived.Test.YtgnkkopjkgdieaaGreatLanePadsR5
import Derived.ProofKit
set_option linter.unusedVariables false
set_option linter.unusedSimpArgs false
set_option maxRecDepth 100000
namespace Go.Proofs.YtgnkkopjkgdieaaGreat
open Go Go.V Go.ChangeShapes Go.WideShapes Go.ChangeAt Go.RowKit
theorem lanePads_lifted (os : Os) (started : os.Started) (H : Type) (enc : TypeId × Value → H) :
    ReturnsInHanded {} Tryz.checked os 4 .any (Rows.lanePadsSpec.pre6 enc Tryz.prog Tryz.f4 Rows.lanePadsRow.domain false) (Rows.lanePadsSpec.post enc Tryz.prog Tryz.f4 false true false false) := by
  refine returnsInHanded_of_change (C := Tryz.checked) Tryz.own started (by kernel_rfl) Tryz.func4
    (ChangeSpec.witness6 (enc := enc) (C := Tryz.checked) false ⟨#[], #[.float .f64 0, .bool false, .slice none 0 0, .int .i64 0], []⟩ 8 (by kernel_rfl) (by kernel_rfl) (by kernel_rfl) (by kernel_rfl)) ?_
  intro W base args ds gs before hval0 hW hcnd _
  have hval : ∀ (j : Nat) t v, Tryz.f4.params[j]? = some t → args[j]? = some v → Value.okWide Tryz.prog W .any base t v := hval0
  have hW' := hW
  obtain ⟨p, q, hA0, hV, rfl, hfz, hnd⟩ := hW
  have hA : DataW.TrodAll enc Tryz.prog W 0 (fun _ => true) true Tryz.f4.params.toList args.toList ds p := hA0
  rw [Tryz.params4] at hA hval
  obtain ⟨args⟩ := args
  have hA := (show DataW.TrodAll enc Tryz.prog W 0 (fun _ => true) true [37, 4, 22, 3] args ds p from hA)
  obtain ⟨v0, vs0, d0, ds0, p0, q0, rfl, rfl, rfl, h0, hA⟩ := trodAll_cons hA
  obtain ⟨v1, vs1, d1, ds1, p1, q1, rfl, rfl, rfl, h1, hA⟩ := trodAll_cons hA
  obtain ⟨v2, vs2, d2, ds2, p2, q2, rfl, rfl, rfl, h2, hA⟩ := trodAll_cons hA
  obtain ⟨v3, vs3, d3, ds3, p3, q3, rfl, rfl, rfl, h3, hA⟩ := trodAll_cons hA
  obtain ⟨rfl, rfl, rfl⟩ := trodAll_nil hA
  have w0 := hval 0 37 v0 rfl rfl
  obtain ⟨a0, e0, o0⟩ := Rds.val (rds_f64 Tryz.underlying37) h0
  rw [okWide_one (k := .i64) (.inr (.inr (.inl Tryz.underlying37))) w0] at e0
  have e0 : [v0] = _ := e0
  simp only [List.cons.injEq, and_true] at e0
  subst e0
  have w1 := hval 1 4 v1 rfl rfl
  obtain ⟨a1, e1, o1⟩ := Rds.val (rds_bool Tryz.underlying4) h1
  rw [okWide_one (k := .i64) (.inr (.inl Tryz.underlying4)) w1] at e1
  have e1 : [v1] = _ := e1
  simp only [List.cons.injEq, and_true] at e1
  subst e1
  have w2 := hval 2 22 v2 rfl rfl
  obtain ⟨a2, f2_0, o2⟩ := Rds.ro (rds_slice Tryz.underlying22 (by kernel_rfl) (by decide) (rds_int Tryz.underlying5)) Tryz.underlying22 w2 h2
  have w3 := hval 3 3 v3 rfl rfl
  obtain ⟨a3, e3, o3⟩ := Rds.val (rds_int Tryz.underlying3) h3
  rw [okWide_one (k := .i64) (.inl Tryz.underlying3) w3] at e3
  have e3 : [v3] = _ := e3
  simp only [List.cons.injEq, and_true] at e3
  subst e3
  refine (law16_LanePads_ref (w0 := W) (I := hl W) (R := emp) (f2_0.mono ro_rd) (St.start W) (lanePads_plain o0 o1 o2 o3)).mono fun e W' he => ?_
  obtain ⟨_, rfl, hI, hst⟩ := he
  exact ⟨_, rfl, law_post hW' Tryz.laidOut (by kernel_rfl) rfl (by kernel_rfl) Tryz.underlying4 ⟨rfl, rfl, rfl⟩ (hst.below hI)⟩

/-- THE ROW of LanePads. -/
theorem lanePads_holds : Rows.LanePadsSaid :=
  OpenClaim.holds_of_wide 4 Tryz.f4 rfl rfl rfl rfl rfl rfl rfl ⟨rfl, rfl, rfl, rfl, rfl⟩ rfl rfl rfl rfl rfl (by kernel_rfl) Tryz.func4 (by kernel_rfl)
    (of_decide_eq_true (by kernel_rfl)) (by unfold Func.isWrapper; first | (rw [if_pos (by decide +kernel)]; kernel_rfl) | (rw [if_neg (by decide +kernel)]; exact ⟨rfl, rfl⟩))
    (fun os started H enc _ => lanePads_lifted os started H enc)
end Go.Proofs.YtgnkkopjkgdieaaGreat
