/- Loops, plainly: how a model's loop ends. -/
import Derived.Test.YtijcfglomdfglaaGvFloat
set_option linter.unusedVariables false
set_option linter.unusedSimpArgs false
namespace Go.V
open Go

theorem loop_range {S R : Type} {body : S → Option (S ⊕ R)} (st : Nat → S) (n : Nat) (r : R) (hstep : ∀ i, i < n → body (st i) = some (.inl (st (i + 1)))) (hend : body (st n) = some (.inr r)) : loopO body (st 0) = some r := by
  have key : ∀ k, k ≤ n → loopO body (st (n - k)) = some r := by
    intro k
    induction k with
    | zero => intro _; rw [loopO_eq, Nat.sub_zero, hend]; rfl
    | succ k ih =>
      intro hk
      rw [loopO_eq, hstep (n - (k + 1)) (by omega)]
      have e : n - (k + 1) + 1 = n - k := by omega
      rw [e]
      exact ih (by omega)
  simpa using key n (Nat.le_refl n)
theorem loop_inv {S R : Type} {body : S → Option (S ⊕ R)} (Inv : S → Prop) (m : S → Nat) (Q : R → Prop)
    (h : ∀ s, Inv s → (∃ s', body s = some (.inl s') ∧ Inv s' ∧ m s' < m s) ∨ ∃ r, body s = some (.inr r) ∧ Q r) : ∀ {s : S}, Inv s → ∃ r, loopO body s = some r ∧ Q r := by
  have key : ∀ k s, m s ≤ k → Inv s → ∃ r, loopO body s = some r ∧ Q r := by
    intro k
    induction k with
    | zero =>
      intro s hk hs
      rcases h s hs with ⟨s', _, _, h3⟩ | ⟨r, h1, h2⟩
      · omega
      · exact ⟨r, by rw [loopO_eq, h1]; rfl, h2⟩
    | succ k ih =>
      intro s hk hs
      rcases h s hs with ⟨s', h1, h2, h3⟩ | ⟨r, h1, h2⟩
      · obtain ⟨r, h4, h5⟩ := ih s' (by omega) h2
        exact ⟨r, by rw [loopO_eq, h1]; exact h4, h5⟩
      · exact ⟨r, by rw [loopO_eq, h1]; rfl, h2⟩
  intro s hs
  exact key (m s) s (Nat.le_refl _) hs
theorem loop_true {S : Type} {body : S → Option (S ⊕ Bool)} (Inv : S → Prop) (m : S → Nat)
    (h : ∀ s, Inv s → (∃ s', body s = some (.inl s') ∧ Inv s' ∧ m s' < m s) ∨ body s = some (.inr true)) {s : S} (hs : Inv s) : loopO body s = some true := by
  obtain ⟨r, h1, h2⟩ := loop_inv Inv m (fun r => r = true) (fun s hs => (h s hs).imp id fun h => ⟨true, h, rfl⟩) hs
  rw [h1, h2]
theorem geto_nat {α : Type} {xs : List α} (i : Nat) : geto xs (i : Int) = xs[i]? := by simp [geto]
theorem geto_lt {α : Type} {xs : List α} {i : Nat} (h : i < xs.length) : geto xs (i : Int) = some xs[i] := by rw [geto_nat, List.getElem?_eq_getElem h]
theorem room_le {α β : Type} {xs : List α} {ys : List β} (h : xs.length + ys.length ≤ 1073741824) : room xs ys = true := by simpa [room] using h
theorem gd_true {α : Type} {b : Bool} {x : Option α} (h : b = true) : gd b x = x := by simp [gd, h]
end Go.V
