/- Are two mails one? And the guards of the laws on mails. -/
import Derived.Test.YtldfdainhdiffaaMailJunkMailT
set_option linter.unusedVariables false
set_option linter.unusedSimpArgs false
set_option maxRecDepth 100000
namespace Go.Proofs.Ytldfdainhdiffaa
open Go Go.V
theorem mawake_eq : law17_awake = some true := by
  have hg : mailG { zM with Kind := 5, ID := { Session := 1, Seq := 2 } } := ⟨md 5 (by decide), zMsg_G, zH_G, zR_G, ⟨⟨by decide, by decide⟩, ⟨by decide, by decide⟩⟩, zcG rfl (show (5:Int) ≠ 4 by decide)⟩
  have e := mencode_G hg
  show ((mail_Encode { zM with Kind := 5, ID := { Session := 1, Seq := 2 } }).bind fun t43 => (bif (sEq (toStr t43) (ByteArray.mk #[5, 1, 0, 0, 0, 0, 0, 0, 0, 2, 0, 0, 0, 0, 0, 0, 0])) then (some true) else (some false))) = _
  rw [e, Option.bind_some]
  have e2 : sEq (toStr (mailB { zM with Kind := 5, ID := { Session := 1, Seq := 2 } })) (ByteArray.mk #[5, 1, 0, 0, 0, 0, 0, 0, 0, 2, 0, 0, 0, 0, 0, 0, 0]) = true := by
    unfold sEq
    rw [toList_data, toList_data, toStr_data]
    decide
  rw [e2]; rfl
theorem mailB_u8 {m : api_Mail} (g : mailG m) : U8s (mailB m) := by
  obtain ⟨hk, h1, h2, h3, h4, h5⟩ := g
  have a1 := (RD.message h1).1
  have a2 := (RD.hold h2).1
  have a3 := (RD.reply h3).1
  have a4 := (RD.id h4).1
  refine U8s.le.app ?_
  rcases mkinds hk with k | k | k | k | k | k <;> simp only [mbody, k, if_true, if_false, Int.reduceEq]
  · exact a1
  · exact a2
  · exact a2.app a3
  · exact U8s.le.app (cmdB_u8 (h5.2 k).1)
  · exact a4
  · exact a2
theorem tape_start {l : List Int} (hl : l.length ≤ 1000000) (h : ∀ x ∈ l, (Lit.int .u8 x).wf = true) : tapeOK { L := l, I := 0 } := ⟨Int.le_refl _, hl, fun x hx => lit_u8.1 (h x hx)⟩
end Go.Proofs.Ytldfdainhdiffaa
