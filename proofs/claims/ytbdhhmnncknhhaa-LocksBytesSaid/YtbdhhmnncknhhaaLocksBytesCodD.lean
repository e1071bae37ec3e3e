/- A command's bytes, read back; and what any bytes are read as. -/
import Derived.Test.YtbdhhmnncknhhaaLocksBytesCodRC
set_option linter.unusedVariables false
set_option linter.unusedSimpArgs false
set_option maxRecDepth 100000
namespace Go.Proofs.Ytbdhhmnncknhhaa
open Go Go.V
/-! ### What comes back has the same bytes -/
theorem map_eq {β γ : Type} {l : List β} {f g : β → γ} (h : ∀ x ∈ l, f x = g x) : l.map f = l.map g := List.map_congr_left h
theorem rkB_map {l : List Nat} (h : ∀ x ∈ l, isF x) : (l.map cf).map rkB = l.map rkB := by rw [List.map_map]; exact map_eq fun x hx => rkB_cf (h x hx)
theorem holdB_c {h : api_Hold} (g : holdG h) : holdB (cHold h) = holdB h := by
  obtain ⟨h1, h2, h3, h4, h5, h6, _⟩ := g
  have hs : (h.Scans.map cSpan).map scB = h.Scans.map scB := by
    rw [List.map_map]
    exact map_eq fun x hx => by show rkB (cf x.1) ++ rkB (cf x.2) = _; rw [rkB_cf (h5 x hx).1, rkB_cf (h5 x hx).2]; rfl
  simp only [holdB, cHold, List.length_map, rkB_map h4, rkB_map h6, hs]
theorem holdG_c {h : api_Hold} (g : holdG h) : holdG (cHold h) := by
  obtain ⟨h1, h2, h3, h4, h5, h6, l1, l2, l3, l4, h7⟩ := g
  refine ⟨h1, h2, h3, ?_, ?_, ?_, by simpa [cHold] using l1, by simpa [cHold] using l2, by simpa [cHold] using l3, l4, h7⟩
  · intro x hx
    obtain ⟨y, hy, rfl⟩ := List.mem_map.1 hx
    exact cf_isF y (h4 y hy)
  · intro x hx
    obtain ⟨y, hy, rfl⟩ := List.mem_map.1 hx
    exact ⟨cf_isF _ (h5 y hy).1, cf_isF _ (h5 y hy).2⟩
  · intro x hx
    obtain ⟨y, hy, rfl⟩ := List.mem_map.1 hx
    exact cf_isF y (h6 y hy)
/-! ### Commands -/
/-! ### Lengths -/
theorem flat_len {β : Type} {l : List β} {e : β → List Int} {m : Nat} (h : ∀ x ∈ l, (e x).length ≤ m) : (l.map e).flatten.length ≤ l.length * m := by
  induction l with
  | nil => simp
  | cons x l ih =>
    have h1 := h x (by simp)
    have h2 := ih fun y hy => h y (by simp [hy])
    simp only [List.map_cons, List.flatten_cons, List.length_append, List.length_cons, Nat.succ_mul]
    omega
theorem rkB_len (x : Nat) : (rkB x).length = 8 := leB_length 8 _
theorem holdB_len {h : api_Hold} (g : holdG h) : (holdB h).length ≤ 2000 := by
  obtain ⟨_, _, _, _, _, _, l1, l2, l3, l4, _⟩ := g
  have a1 := flat_len (l := h.Gets) (e := rkB) (m := 8) fun x _ => by rw [rkB_len]; omega
  have a2 := flat_len (l := h.Scans) (e := scB) (m := 16) fun x _ => by simp only [scB, List.length_append, rkB_len]; omega
  have a3 := flat_len (l := h.Puts) (e := rkB) (m := 8) fun x _ => by rw [rkB_len]; omega
  simp only [holdB, byB, List.length_append, leB_length]
  omega
/-! ### Reading back -/
end Go.Proofs.Ytbdhhmnncknhhaa
