/- What stands where: the plain law. -/
import Derived.Test.YtbdnbohbmgmonaaMvccPutsMvO
set_option linter.unusedVariables false
set_option linter.unusedSimpArgs false
set_option maxRecDepth 100000
namespace Go.Proofs.Ytbdnbohbmgmonaa
open Go Go.V
theorem mvccPuts_plain {a0 : List law11_Ver} {a1 : Nat} {a2 : Int} (o0 : a0.length ≤ maxLen ∧ ∀ x ∈ a0, ok_law11_Ver x) (o1 : (Lit.float .f64 a1).wf = true) (o2 : (Lit.int .u64 a2).wf = true) : law11_MvccPuts a0 a1 a2 = some true := by
  obtain ⟨s, m, ok, h1, h2⟩ := fill_eq fun x hx => verG_of (o0.2 x hx)
  simp only [law11_MvccPuts, h1, mv_awake, Option.bind_some, Bool.not_true, cond_false]
  cases ok with
  | false => rfl
  | true =>
    have hI := h2 rfl
    have ht := told_eq hI (by omega)
    obtain ⟨o, _, g1, g2⟩ := got_same hI (by omega) (f64_lt o1) a2
    obtain ⟨rows⟩ := s
    simp only [Bool.not_true, cond_false, ht, Option.bind_some, cond_true, g1, g2, one_got]
end Go.Proofs.Ytbdnbohbmgmonaa
