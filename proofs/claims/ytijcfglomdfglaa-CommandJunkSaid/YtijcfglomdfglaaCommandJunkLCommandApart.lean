/- Unlike commands have unlike bytes: the plain law. -/
import Derived.Test.YtijcfglomdfglaaCommandJunkCodSC
import Derived.Test.YtijcfglomdfglaaCommandJunkCodT
import Derived.Test.YtijcfglomdfglaaCommandJunkCodA
import Derived.Test.YtijcfglomdfglaaCommandJunkA
set_option linter.unusedVariables false
set_option linter.unusedSimpArgs false
set_option maxRecDepth 100000
namespace Go.Proofs.Ytijcfglomdfglaa
open Go Go.V
theorem fC_c {c : api_Command} (h : cmdN c) : fC c = c := by
  obtain ⟨g, e⟩ := h
  have hk := g.1
  have e1 : cHold c.Hold = c.Hold := by
    have h := congrArg api_Command.Hold e
    rcases kinds hk with k | k | k | k | k | k | k <;> simp only [cCmd, k, if_true, if_false, Int.reduceEq] at h <;> first | exact h | (rw [← h]; rfl)
  have e2 : cWrites c.Writes = c.Writes := by
    have h := congrArg api_Command.Writes e
    rcases kinds hk with k | k | k | k | k | k | k <;> simp only [cCmd, k, if_true, if_false, Int.reduceEq] at h <;> first | exact h | (rw [← h]; rfl)
  have e3 : cReply c.R = c.R := by
    have h := congrArg api_Command.R e
    rcases kinds hk with k | k | k | k | k | k | k <;> simp only [cCmd, k, if_true, if_false, Int.reduceEq] at h <;> first | exact h | (rw [← h]; rfl)
  have e4 : c.Parts.map cPart = c.Parts := by
    have h := congrArg api_Command.Parts e
    rcases kinds hk with k | k | k | k | k | k | k <;> simp only [cCmd, k, if_true, if_false, Int.reduceEq] at h <;> first | exact h | (rw [← h]; rfl)
  have e5 : cRule c.Rule = c.Rule := by
    have h := congrArg api_Command.Rule e
    rcases kinds hk with k | k | k | k | k | k | k <;> simp only [cCmd, k, if_true, if_false, Int.reduceEq] at h <;> first | exact h | (rw [← h]; rfl)
  unfold fC
  rw [e1, e2, e3, e4, e5]
theorem tape_start {l : List Int} (hl : l.length ≤ 1000000) (h : ∀ x ∈ l, (Lit.int .u8 x).wf = true) : tapeOK { L := l, I := 0 } := ⟨Int.le_refl _, hl, fun x hx => lit_u8.1 (h x hx)⟩
theorem commandApart_plain {a0 a1 : List Int} (o0 : a0.length ≤ maxLen ∧ ∀ x ∈ a0, (Lit.int .u8 x).wf = true) (o1 : a1.length ≤ maxLen ∧ ∀ x ∈ a1, (Lit.int .u8 x).wf = true) : law13_CommandApart a0 a1 = some true := by
  unfold law13_CommandApart
  simp only [awake_eq, Option.bind_some, Bool.not_true, cond_false]
  cases h0 : decide ((a0.length : Int) > (100:Int)) with
  | true => rfl
  | false =>
  cases h1 : decide ((a1.length : Int) > (100:Int)) with
  | true => rfl
  | false =>
  have l0 : a0.length ≤ 100 := by have := of_decide_eq_false h0; omega
  have l1 : a1.length ≤ 100 := by have := of_decide_eq_false h1; omega
  obtain ⟨a, t, ha, hac, _⟩ := TP.command _ (tape_start (l := a0) (by omega) o0.2)
  obtain ⟨b, u, hb, hbc, _⟩ := TP.command _ (tape_start (l := a1) (by omega) o1.2)
  simp only [cond_false, ha, hb, Option.bind_some, encode_G hac.1, encode_G hbc.1, same_cmd hac.1 hbc.1, fC_c hac, fC_c hbc, txt_tr (cmdB_u8 hac.1) (cmdB_u8 hbc.1)]
  have e : tr (cmdB a = cmdB b) = tr (a = b) := tr_congr ⟨fun h => by
    have d1 := dec_enc hac.1
    have d2 := dec_enc hbc.1
    rw [h, d2, hac.2, hbc.2] at d1
    have := (Prod.mk.inj (Option.some.inj d1)).1
    exact this.symm, fun h => by rw [h]⟩
  rw [e]; simp
end Go.Proofs.Ytijcfglomdfglaa
