/- The guards of the laws on commands. -/
import Derived.Test.YtijcfglomdfglaaCommandJunkCodD
import Derived.Test.YtijcfglomdfglaaGvText
set_option linter.unusedVariables false
set_option linter.unusedSimpArgs false
set_option maxRecDepth 100000
namespace Go.Proofs.Ytijcfglomdfglaa
open Go Go.V
theorem awake_eq : law13_awake = some true := by
  have hg : cmdG { zC with Kind := 1, Epoch := 3 } := ⟨kd 1 (by decide), ⟨u0 8, u0 8⟩, ⟨by decide, by decide⟩, u0 8, u0 1, zH_G, zW_G, zR_G, u0 2, Nat.zero_le _, no_mem, zL_G⟩
  have e := encode_G hg
  show ((command_Encode { zC with Kind := 1, Epoch := 3 }).bind fun t43 => (bif (sEq (toStr t43) (ByteArray.mk #[1, 3, 0, 0, 0, 0, 0, 0, 0])) then (some true) else (some false))) = _
  rw [e, Option.bind_some]
  have e2 : sEq (toStr (cmdB { zC with Kind := 1, Epoch := 3 })) (ByteArray.mk #[1, 3, 0, 0, 0, 0, 0, 0, 0]) = true := by
    unfold sEq
    rw [toList_data, toList_data, toStr_data]
    decide
  rw [e2]; rfl
theorem cmdB_u8 {c : api_Command} (g : cmdG c) : U8s (cmdB c) := by
  obtain ⟨hk, h1, h2, h3, he, h4, h5, h6, h7, h8, h9, h10⟩ := g
  have a1 := (RD.hold h4).1
  have a2 := (RD.writes h5).1
  have a3 := (RD.reply h6).1
  have a4 := (RD.rule h10).1
  have a5 := (RD.id h1).1
  have a6 := (RD.parts h8 h9).1
  have a7 := (RD.flag c.On).1
  refine U8s.le.app ?_
  rcases kinds hk with k | k | k | k | k | k | k <;> simp only [bodyB, k, if_true, if_false, Int.reduceEq]
  · exact U8s.le
  · exact a1
  · exact a5.app (U8s.le.app (U8s.le.app (U8s.le.app a2)))
  · rw [← List.append_assoc (leB 4 _)]
    exact a5.app (U8s.le.app (U8s.le.app (a6.app a3)))
  · exact a5
  · exact a4.app a7
  · exact a5.app (U8s.le.app (a4.app (a2.app a3)))
end Go.Proofs.Ytijcfglomdfglaa
