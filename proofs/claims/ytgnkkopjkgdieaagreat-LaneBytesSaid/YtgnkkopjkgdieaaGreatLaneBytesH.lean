/- What the Go function answers is what the statement says, for every input. -/
import Derived.Test.YtgnkkopjkgdieaaGreatRows
import Derived.Test.YtgnkkopjkgdieaaGreatLaneBytesP4
import Derived.Test.YtgnkkopjkgdieaaGreatLaneBytesR4
import Derived.ProofKit
set_option linter.unusedVariables false
set_option linter.unusedSimpArgs false
set_option maxRecDepth 100000
namespace Go.Proofs.YtgnkkopjkgdieaaGreat
open Go Go.V Go.ChangeShapes Go.WideShapes Go.ChangeAt Go.RowKit
theorem zD (os:Os) (started:os.Started) (H:Type) (enc:TypeId×Value→H) :
  ReturnsInHanded {} Tryz.checked os 11 .any (Rows.laneBytesSpec.pre6 enc Tryz.prog Tryz.f11 Rows.laneBytesRow.domain false) (Rows.laneBytesSpec.post enc Tryz.prog Tryz.f11 false true false false):=by
 refine returnsInHanded_of_change (C:=Tryz.checked) Tryz.own started (by kernel_rfl) Tryz.func11
  (ChangeSpec.witness6 (enc:=enc) (C:=Tryz.checked) false ⟨#[],#[.slice none 0 0,.int .u8 0],[]⟩ 8 (by kernel_rfl) (by kernel_rfl) (by kernel_rfl) (by kernel_rfl)) ?_
 intro W base args ds gs before hval0 hW hcnd _
 have hval:∀ (j:Nat) t v,Tryz.f11.params[j]?=some t→args[j]?=some v→Value.okWide Tryz.prog W .any base t v:=hval0
 have hW':=hW
 obtain ⟨p,q,hA0,hV,rfl,hfz,hnd⟩:=hW
 have hA:DataW.TrodAll enc Tryz.prog W 0 (fun _=>true) true Tryz.f11.params.toList args.toList ds p:=hA0
 rw [Tryz.params11] at hA hval
 obtain ⟨args⟩:=args
 have hA:=(show DataW.TrodAll enc Tryz.prog W 0 (fun _=>true) true [22,5] args ds p from hA)
 obtain ⟨v0,vs0,d0,ds0,p0,q0,rfl,rfl,rfl,h0,hA⟩:=trodAll_cons hA
 obtain ⟨v1,vs1,d1,ds1,p1,q1,rfl,rfl,rfl,h1,hA⟩:=trodAll_cons hA
 obtain ⟨rfl,rfl,rfl⟩:=trodAll_nil hA
 have w0:=hval 0 22 v0 rfl rfl
 obtain ⟨a0,f0_0,o0⟩:=Rds.ro (HG Tryz.underlying22 (by kernel_rfl) (by decide) (FD Tryz.underlying5)) Tryz.underlying22 w0 h0
 have w1:=hval 1 5 v1 rfl rfl
 obtain ⟨a1,e1,o1⟩:=Rds.val (FD Tryz.underlying5) h1
 rw [Fq (k:=.u8) (.inl Tryz.underlying5) w1] at e1
 have e1:[v1]=_:=e1
 simp only [List.cons.injEq,and_true] at e1
 subst e1
 refine (xz (w0:=W) (I:=hl W) (R:=emp) f0_0 (St.start W) (Aa o0 o1)).mono fun e W' he=>?_
 obtain ⟨_,rfl,hI,hst⟩:=he
 exact ⟨_,rfl,Jp hW' Tryz.laidOut (by kernel_rfl) rfl (by kernel_rfl) Tryz.underlying4 ⟨rfl,rfl,rfl⟩ (hst.below hI)⟩
theorem laneBytes_holds:Rows.LaneBytesSaid :=
 OpenClaim.holds_of_wide 11 Tryz.f11 rfl rfl rfl rfl rfl rfl rfl ⟨rfl,rfl,rfl,rfl,rfl⟩ rfl rfl rfl rfl rfl (by kernel_rfl) Tryz.func11 (by kernel_rfl)
  (of_decide_eq_true (by kernel_rfl)) (by unfold Func.isWrapper; first | (rw [if_pos (by decide +kernel)]; kernel_rfl) | (rw [if_neg (by decide +kernel)]; exact ⟨rfl,rfl⟩))
  (fun os started H enc _=>zD os started H enc)
end Go.Proofs.YtgnkkopjkgdieaaGreat
