/- The arguments of the laws on holds. -/
import Derived.Test.YtbdhhmnncknhhaaLocksBytesLkT
import Derived.Test.YtbdhhmnncknhhaaLocksBytesA
set_option linter.unusedVariables false
set_option linter.unusedSimpArgs false
set_option maxRecDepth 100000
namespace Go.Proofs.Ytbdhhmnncknhhaa
open Go Go.V
theorem lit_8 {v : Int} (h : (Lit.int .u64 v).wf = true) : isU 8 v := by
  have := lit_u64.1 h
  exact ⟨this.1, by rw [pw8]; omega⟩
theorem holdG_of {h : api_Hold} (o : ok_api_Hold h) (s : h.Gets.length ≤ 32 ∧ h.Scans.length ≤ 32 ∧ h.Puts.length ≤ 32 ∧ h.Data.length ≤ 257) : holdG h := by
  obtain ⟨⟨o1, o2⟩, o3, o4, o5, o6, o7⟩ := o
  exact ⟨lit_8 o1, lit_8 o2, lit_8 o3, fun x hx => f64_lt (o4.2 x hx), fun x hx => ⟨f64_lt (o5.2 x hx).1, f64_lt (o5.2 x hx).2⟩, fun x hx => f64_lt (o6.2 x hx), s.1, s.2.1, s.2.2.1, s.2.2.2, fun x hx => lit_u8.1 (o7.2 x hx)⟩
theorem tape_of {l : List Int} (o : l.length ≤ maxLen ∧ ∀ x ∈ l, (Lit.int .u8 x).wf = true) (hn : l.length ≤ 1000000) : tapeOK { L := l, I := 0 } := ⟨Int.le_refl _, hn, fun x hx => lit_u8.1 (o.2 x hx)⟩
end Go.Proofs.Ytbdhhmnncknhhaa
