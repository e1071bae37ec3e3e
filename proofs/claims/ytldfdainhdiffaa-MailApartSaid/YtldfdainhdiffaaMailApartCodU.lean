/- A command's bytes are bytes. -/
import Derived.Test.YtldfdainhdiffaaMailApartCodD
set_option linter.unusedVariables false
set_option linter.unusedSimpArgs false
set_option maxRecDepth 100000
namespace Go.Proofs.Ytldfdainhdiffaa
open Go Go.V
theorem cmdB_u8 {c : api_Command} (g : cmdG c) : U8s (cmdB c) := by
  obtain ⟨hk, h1, h2, h3, he, h4, h5, h6, h7, h8, h9, h10⟩ := g
  have a1 := (RD.hold h4).1
  have a2 := (RD.writes h5).1
  have a3 := (RD.reply h6).1
  have a4 := (RD.rule h10).1
  have a5 := (RD.id h1).1
  have a6 := (RD.parts h8 h9).1
  have a7 := (RD.flag c.On).1
  refine U8s.le.app ?_
  rcases kinds hk with k | k | k | k | k | k | k <;> simp only [bodyB, k, if_true, if_false, Int.reduceEq]
  · exact U8s.le
  · exact a1
  · exact a5.app (U8s.le.app (U8s.le.app (U8s.le.app a2)))
  · rw [← List.append_assoc (leB 4 _)]
    exact a5.app (U8s.le.app (U8s.le.app (a6.app a3)))
  · exact a5
  · exact a4.app a7
  · exact a5.app (U8s.le.app (a4.app (a2.app a3)))
end Go.Proofs.Ytldfdainhdiffaa
