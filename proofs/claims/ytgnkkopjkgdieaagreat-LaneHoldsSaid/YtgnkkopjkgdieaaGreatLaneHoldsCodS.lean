/- Are two holds, answers, commands one? They are, if they come back as one. -/
import Derived.Test.YtgnkkopjkgdieaaGreatLaneHoldsCodD
import Derived.Test.YtgnkkopjkgdieaaGreatLaneHoldsFltS
import Derived.Test.YtgnkkopjkgdieaaGreatLaneHoldsGv
set_option linter.unusedVariables false
set_option linter.unusedSimpArgs false
set_option maxRecDepth 100000
namespace Go.Proofs.YtgnkkopjkgdieaaGreat
open Go Go.V
noncomputable def tr (p : Prop) : Bool := @decide p (Classical.propDecidable p)
theorem tr_iff {p : Prop} : tr p = true ↔ p := by unfold tr; exact @decide_eq_true_iff p (Classical.propDecidable p)
theorem tr_t {p : Prop} (h : p) : tr p = true := tr_iff.2 h
theorem tr_f {p : Prop} (h : ¬ p) : tr p = false := by cases e : tr p with | false => rfl | true => exact absurd (tr_iff.1 e) h
theorem tr_eq {p : Prop} {b : Bool} (h : b = true ↔ p) : b = tr p := by
  by_cases hp : p
  · rw [tr_t hp, h.2 hp]
  · rw [tr_f hp]; cases b with | false => rfl | true => exact absurd (h.1 rfl) hp
theorem tr_congr {p q : Prop} (h : p ↔ q) : tr p = tr q := tr_eq (tr_iff.trans h)
/-- One part differs, or all else decides. -/
theorem and_step {p q : Prop} {b : Bool} {X : Option Bool} (hb : b = !(tr p)) (h : p → X = some (tr q)) : (bif b then some false else X) = some (tr (p ∧ q)) := by
  subst hb
  by_cases hp : p
  · rw [tr_t hp, Bool.not_true, cond_false, h hp, tr_congr (q := p ∧ q) ⟨fun hq => ⟨hp, hq⟩, fun hq => hq.2⟩]
  · rw [tr_f hp, Bool.not_false, cond_true, tr_f fun h => hp h.1]
theorem ne_tr (a b : Int) : (a != b) = !(tr (a = b)) := by rw [← tr_eq (b := a == b) (by simp)]; rfl
theorem eqi_tr (a b : Int) : (a == b) = tr (a = b) := tr_eq (by simp)
theorem len_tr {α β : Type} (a : List α) (b : List β) : (((a.length : Nat) : Int) != ((b.length : Nat) : Int)) = !(tr (a.length = b.length)) := by rw [ne_tr]; exact congrArg _ (tr_congr (by omega))
theorem stp1 {γ : Type} {p : Prop} {N Y : γ} : (bif !(tr p) then N else Y) = bif tr p then Y else N := by cases tr p <;> rfl
/-- A loop that compares two lists. -/
theorem cmp_loop {α β R : Type} {body : Int → Option (Int ⊕ R)} (yes no : R) (c : α → β) (a b : List α) (hl : a.length = b.length) (hn : a.length ≤ 1000000)
    (hstep : ∀ i (h : i < a.length), body (i : Int) = bif tr (c a[i] = c (b[i]'(hl ▸ h))) then some (Sum.inl (IntKind.i64.wrap ((i : Int) + (1:Int)))) else some (Sum.inr no))
    (hend : body (a.length : Int) = some (Sum.inr yes)) : loopO body (0:Int) = some (bif tr (a.map c = b.map c) then yes else no) := by
  have key : ∀ k, k ≤ a.length → loopO body ((a.length - k : Nat) : Int) = some (bif tr ((a.drop (a.length - k)).map c = (b.drop (a.length - k)).map c) then yes else no) := by
    intro k
    induction k with
    | zero =>
      intro _
      have hb : b.drop (a.length - 0) = [] := List.drop_eq_nil_of_le (by omega)
      have ha : a.drop (a.length - 0) = [] := List.drop_eq_nil_of_le (by omega)
      rw [loopO_eq, Nat.sub_zero, hend]
      simp only [Nat.sub_zero] at ha hb
      rw [ha, hb, tr_t rfl]; rfl
    | succ k ih =>
      intro hk
      have hi : a.length - (k + 1) < a.length := by omega
      have e : IntKind.i64.wrap (((a.length - (k + 1) : Nat) : Int) + (1:Int)) = ((a.length - k : Nat) : Int) := by rw [wrap_i64] <;> omega
      have e2 : a.length - (k + 1) + 1 = a.length - k := by omega
      have ha : a.drop (a.length - (k + 1)) = a[a.length - (k + 1)] :: a.drop (a.length - k) := by rw [List.drop_eq_getElem_cons hi, e2]
      have hb : b.drop (a.length - (k + 1)) = b[a.length - (k + 1)]'(hl ▸ hi) :: b.drop (a.length - k) := by rw [List.drop_eq_getElem_cons (hl ▸ hi), e2]
      rw [loopO_eq, hstep _ hi, e]
      by_cases hc : c a[a.length - (k + 1)] = c (b[a.length - (k + 1)]'(hl ▸ hi))
      · rw [tr_t hc, cond_true]
        have h := ih (by omega)
        rw [ha, hb, List.map_cons, List.map_cons]
        rw [tr_congr (q := (a.drop (a.length - k)).map c = (b.drop (a.length - k)).map c) (by simp [hc])]
        exact h
      · rw [tr_f hc, cond_false, ha, hb, List.map_cons, List.map_cons, tr_f (by simp [hc])]
        rfl
  have h := key a.length (Nat.le_refl _)
  simpa using h
theorem cmp_len {α β : Type} {c : α → β} {a b : List α} {X : Option Bool} (h : a.length = b.length → X = some (tr (a.map c = b.map c))) : (bif ((a.length : Nat) : Int) != ((b.length : Nat) : Int) then some false else X) = some (tr (a.map c = b.map c)) := by
  rw [and_step (len_tr a b) h]
  exact congrArg _ (tr_congr ⟨fun h => h.2, fun h => ⟨by simpa using congrArg List.length h, h⟩⟩)
theorem bif_tf {p : Prop} : (bif tr p then true else false) = tr p := by cases tr p <;> rfl
/-! ### Answers -/
theorem id_eq (x y : api_ID) : (x.Session = y.Session ∧ x.Seq = y.Seq) ↔ x = y := by cases x; cases y; simp
/-! ### Holds -/
end Go.Proofs.YtgnkkopjkgdieaaGreat
