/- A command's bytes, read back; and what any bytes are read as. -/
import Derived.Test.YtkfifhkjdibadaaSessionJunkCodRC
set_option linter.unusedVariables false
set_option linter.unusedSimpArgs false
set_option maxRecDepth 100000
namespace Go.Proofs.Ytkfifhkjdibadaa
open Go Go.V
/-! ### What comes back has the same bytes -/
/-! ### Commands -/
theorem u0 (m : Nat) : isU m 0 := ⟨Int.le_refl _, by have := Nat.pow_pos (n := m) (show 0 < 256 by decide); omega⟩
/-! ### Lengths -/
theorem flat_len {β : Type} {l : List β} {e : β → List Int} {m : Nat} (h : ∀ x ∈ l, (e x).length ≤ m) : (l.map e).flatten.length ≤ l.length * m := by
  induction l with
  | nil => simp
  | cons x l ih =>
    have h1 := h x (by simp)
    have h2 := ih fun y hy => h y (by simp [hy])
    simp only [List.map_cons, List.flatten_cons, List.length_append, List.length_cons, Nat.succ_mul]
    omega
theorem rkB_len (x : Nat) : (rkB x).length = 8 := leB_length 8 _
theorem replyB_len {x : api_Reply} (g : replyG x) : (replyB x).length ≤ 700000 := by
  obtain ⟨h1, h2, h3, h4, h5, h6, h7⟩ := g
  have a1 := flat_len (l := x.Gots) (e := gotB) (m := 280) fun y hy => by
    have := (h4 y hy).1
    simp only [gotB, flB, byB, List.length_append, leB_length]; omega
  have a2 := flat_len (l := x.Scans) (e := pairsB) (m := 20000) fun l hl => by
    have b := flat_len (l := l) (e := pairB) (m := 280) fun y hy => by
      have := ((h5 l hl).2 y hy).2.1
      simp only [pairB, byB, List.length_append, rkB_len, leB_length]; omega
    have := (h5 l hl).1
    simp only [pairsB, List.length_append, leB_length]; omega
  simp only [replyB, List.length_append, leB_length]
  omega
/-! ### Reading back -/
end Go.Proofs.Ytkfifhkjdibadaa
