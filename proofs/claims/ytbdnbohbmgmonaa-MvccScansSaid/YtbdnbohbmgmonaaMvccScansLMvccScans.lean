/- What stands within any numbers: the plain law. -/
import Derived.Test.YtbdnbohbmgmonaaMvccScansMvS
set_option linter.unusedVariables false
set_option linter.unusedSimpArgs false
set_option maxRecDepth 100000
namespace Go.Proofs.Ytbdnbohbmgmonaa
open Go Go.V
theorem mvccScans_plain {a0 : List law11_Ver} {a1 a2 : Nat} {a3 : Bool} {a4 a5 : Int} (o0 : a0.length ≤ maxLen ∧ ∀ x ∈ a0, ok_law11_Ver x) (o1 : (Lit.float .f64 a1).wf = true) (o2 : (Lit.float .f64 a2).wf = true) (_ : True) (o4 : (Lit.int .u64 a4).wf = true) (o5 : (Lit.int .i64 a5).wf = true) : law11_MvccScans a0 a1 a2 a3 a4 a5 = some true := by
  obtain ⟨s, m, ok, h1, h2⟩ := fill_eq fun x hx => verG_of (o0.2 x hx)
  simp only [law11_MvccScans, h1, mv_awake, Option.bind_some, Bool.not_true, cond_false]
  cases ok with
  | false => rfl
  | true =>
    have hI := h2 rfl
    obtain ⟨l⟩ := s
    have key : ∀ lo hi : Nat, isF lo → isF hi → law11_MvccScans_j0 ({ rows := l }, m, true) a4 a5 (lo, hi) = some true := fun lo hi hlo hhi => by
      obtain ⟨P, Q, q1, q2, q3⟩ := scan_same hI (by omega) hlo hhi (Int.tmod a4 (9:Int)) a5
      obtain ⟨P', Q', r1, r2, r3⟩ := scan_same hI (by omega) hlo hhi (18446744073709551615:Int) (1000:Int)
      simp only [law11_MvccScans_j0, q1, q2, q3, r1, r2, r3, Option.bind_some, cond_true]
    simp only [Bool.not_true, cond_false]
    cases a3 with
    | true =>
      simp only [cond_true, Option.bind_some]
      exact key _ _ (by unfold isF; decide) (by unfold isF; decide)
    | false =>
      simp only [cond_false, Option.bind_some]
      exact key _ _ (f64_lt o1) (f64_lt o2)
end Go.Proofs.Ytbdnbohbmgmonaa
