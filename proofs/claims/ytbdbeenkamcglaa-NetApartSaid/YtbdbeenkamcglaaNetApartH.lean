/- The row of NetApart: WHATEVER THE INPUT, the law answers true, and the arguments read behind the call as they read before. No condition. -/
import Derived.Test.YtbdbeenkamcglaaRows
import Derived.Test.YtbdbeenkamcglaaNetApartLNetApart
import Derived.Test.YtbdbeenkamcglaaNetApartR2
import Derived.ProofKit
set_option linter.unusedVariables false
set_option linter.unusedSimpArgs false
set_option maxRecDepth 100000
namespace Go.Proofs.Ytbdbeenkamcglaa
open Go Go.V Go.ChangeShapes Go.WideShapes Go.ChangeAt Go.RowKit
theorem netApart_lifted (os : Os) (started : os.Started) (H : Type) (enc : TypeId × Value → H) :
    ReturnsInHanded {} Try.checked os 3 .any (Rows.netApartSpec.pre6 enc Try.prog Try.f3 Rows.netApartRow.domain false) (Rows.netApartSpec.post enc Try.prog Try.f3 false true false false) := by
  refine returnsInHanded_of_change (C := Try.checked) Try.own started (by kernel_rfl) Try.func3
    (ChangeSpec.witness6 (enc := enc) (C := Try.checked) false ⟨#[], #[.agg #[.int .i64 0, .int .i64 0, .int .i64 0], .agg #[.int .i64 0, .int .i64 0, .int .i64 0], .slice none 0 0], []⟩ 8 (by kernel_rfl) (by kernel_rfl) (by kernel_rfl) (by kernel_rfl)) ?_
  intro W base args ds gs before hval0 hW hcnd _
  have hval : ∀ (j : Nat) t v, Try.f3.params[j]? = some t → args[j]? = some v → Value.okWide Try.prog W .any base t v := hval0
  have hW' := hW
  obtain ⟨p, q, hA0, hV, rfl, hfz, hnd⟩ := hW
  have hA : DataW.TrodAll enc Try.prog W 0 (fun _ => true) true Try.f3.params.toList args.toList ds p := hA0
  rw [Try.params3] at hA hval
  obtain ⟨args⟩ := args
  have hA := (show DataW.TrodAll enc Try.prog W 0 (fun _ => true) true [23, 23, 24] args ds p from hA)
  obtain ⟨v0, vs0, d0, ds0, p0, q0, rfl, rfl, rfl, h0, hA⟩ := trodAll_cons hA
  obtain ⟨v1, vs1, d1, ds1, p1, q1, rfl, rfl, rfl, h1, hA⟩ := trodAll_cons hA
  obtain ⟨v2, vs2, d2, ds2, p2, q2, rfl, rfl, rfl, h2, hA⟩ := trodAll_cons hA
  obtain ⟨rfl, rfl, rfl⟩ := trodAll_nil hA
  have w0 := hval 0 23 v0 rfl rfl
  obtain ⟨a0, e0, o0⟩ := Rds.val rds_net_Link h0
  obtain ⟨⟨cs0⟩, rfl⟩ := okWide_agg Try.underlying23 w0
  have e0 : cs0 = _ := e0
  subst e0
  have w1 := hval 1 23 v1 rfl rfl
  obtain ⟨a1, e1, o1⟩ := Rds.val rds_net_Link h1
  obtain ⟨⟨cs1⟩, rfl⟩ := okWide_agg Try.underlying23 w1
  have e1 : cs1 = _ := e1
  subst e1
  have w2 := hval 2 24 v2 rfl rfl
  obtain ⟨a2, f2_0, o2⟩ := Rds.ro (rds_slice Try.underlying24 (by kernel_rfl) (by decide) (rds_int Try.underlying5)) Try.underlying24 w2 h2
  refine (law21_NetApart_ref (w0 := W) (I := hl W) (R := emp) (f2_0.mono ro_rd) (St.start W) (netApart_plain o0 o1 o2)).mono fun e W' he => ?_
  obtain ⟨_, rfl, hI, hst⟩ := he
  exact ⟨_, rfl, law_post hW' Try.laidOut (by kernel_rfl) rfl (by kernel_rfl) Try.underlying4 ⟨rfl, rfl, rfl⟩ (hst.below hI)⟩

/-- THE ROW of NetApart. -/
theorem netApart_holds : Rows.NetApartSaid :=
  OpenClaim.holds_of_wide 3 Try.f3 rfl rfl rfl rfl rfl rfl rfl ⟨rfl, rfl, rfl, rfl, rfl⟩ rfl rfl rfl rfl rfl (by kernel_rfl) Try.func3 (by kernel_rfl)
    (of_decide_eq_true (by kernel_rfl)) (by unfold Func.isWrapper; first | (rw [if_pos (by decide +kernel)]; kernel_rfl) | (rw [if_neg (by decide +kernel)]; exact ⟨rfl, rfl⟩))
    (fun os started H enc _ => netApart_lifted os started H enc)
end Go.Proofs.Ytbdbeenkamcglaa
