/- A command's bytes, read back; and what any bytes are read as. -/
import Derived.Test.YtbdhhmnncknhhaaLocksJunkCodRC
set_option linter.unusedVariables false
set_option linter.unusedSimpArgs false
set_option maxRecDepth 100000
namespace Go.Proofs.Ytbdhhmnncknhhaa
open Go Go.V
/-! ### What comes back has the same bytes -/
/-! ### Commands -/
theorem u0 (m : Nat) : isU m 0 := ⟨Int.le_refl _, by have := Nat.pow_pos (n := m) (show 0 < 256 by decide); omega⟩
/-! ### Lengths -/
theorem flat_len {β : Type} {l : List β} {e : β → List Int} {m : Nat} (h : ∀ x ∈ l, (e x).length ≤ m) : (l.map e).flatten.length ≤ l.length * m := by
  induction l with
  | nil => simp
  | cons x l ih =>
    have h1 := h x (by simp)
    have h2 := ih fun y hy => h y (by simp [hy])
    simp only [List.map_cons, List.flatten_cons, List.length_append, List.length_cons, Nat.succ_mul]
    omega
theorem rkB_len (x : Nat) : (rkB x).length = 8 := leB_length 8 _
theorem holdB_len {h : api_Hold} (g : holdG h) : (holdB h).length ≤ 2000 := by
  obtain ⟨_, _, _, _, _, _, l1, l2, l3, l4, _⟩ := g
  have a1 := flat_len (l := h.Gets) (e := rkB) (m := 8) fun x _ => by rw [rkB_len]; omega
  have a2 := flat_len (l := h.Scans) (e := scB) (m := 16) fun x _ => by simp only [scB, List.length_append, rkB_len]; omega
  have a3 := flat_len (l := h.Puts) (e := rkB) (m := 8) fun x _ => by rw [rkB_len]; omega
  simp only [holdB, byB, List.length_append, leB_length]
  omega
/-! ### Reading back -/
end Go.Proofs.Ytbdhhmnncknhhaa
