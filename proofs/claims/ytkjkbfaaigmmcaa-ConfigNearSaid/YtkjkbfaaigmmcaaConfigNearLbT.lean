/- The document's check, and what a lattice tells; plainly. -/
import Derived.Test.YtkjkbfaaigmmcaaConfigNearLbS
set_option linter.unusedVariables false
set_option linter.unusedSimpArgs false
set_option maxRecDepth 100000
namespace Go.Proofs.Ytkjkbfaaigmmcaa
open Go Go.V
variable {us : List Nat}
theorem jn_inl {S R : Type} (x : S) (f : S → Option R) : joinO (some (Sum.inl x)) f = f x := rfl
def trn (us : List Nat) (a b c : Nat) : Bool := le us a b && (le us b c && !le us a c)
def badR (us : List Nat) (a b : Nat) : Bool := ((a != b) && (le us a b && le us b a)) || (List.range us.length).any (trn us a b)
def badA (us : List Nat) (a : Nat) : Bool := !decide (ub us a < 2 ^ us.length) || (!le us a a || (List.range us.length).any (badR us a))
theorem ne_nat (a b : Nat) : ((a : Int) != (b : Int)) = (a != b) := by
  rw [Bool.eq_iff_iff, bne_iff_ne, bne_iff_ne]
  omega
theorem chk1 (hw : w64 us) (hn : us.length ≤ 16) : loopO (ref03_Check_l1 (up us)) (0:Int) = some (bif (List.range us.length).any (badA us) then Sum.inr (15:Int) else Sum.inl ()) := by
  refine loop_anyN (body := ref03_Check_l1 (up us)) us.length (badA us) _ _ (fun a ha => ?_) (by simp only [ref03_Check_l1, up_len, lt_f, cond_false]; rfl)
  have h2 := loop_anyN (body := ref03_Check_l2 (up us) (a : Int)) us.length (badR us a) (Sum.inr (Sum.inr (15:Int))) (Sum.inl ((a + 1 : Nat) : Int)) (fun b hb => by
    have h4 := loop_anyN (body := ref03_Check_l4 (up us) (a : Int) (b : Int)) us.length (trn us a b) (Sum.inr (Sum.inr (Sum.inr (15:Int)))) (Sum.inl ((b + 1 : Nat) : Int)) (fun c hc => by
      simp only [ref03_Check_l4, up_len, lt_t hc, cond_true, leq_in hw ha hb, leq_in hw hb hc, leq_in hw ha hc, Option.bind_some, wrap_succ (show c ≤ 4294967295 by omega), trn]
      cases le us a b <;> cases le us b c <;> cases le us a c <;> rfl) (by simp only [ref03_Check_l4, up_len, lt_f, cond_false, wrap_succ (show b ≤ 4294967295 by omega)]; rfl)
    simp only [ref03_Check_l2, up_len, lt_t hb, cond_true, ne_nat, leq_in hw ha hb, leq_in hw hb ha, Option.bind_some]
    unfold badR
    cases h : (a != b) && (le us a b && le us b a) with
    | true =>
      simp only [Bool.and_eq_true] at h
      obtain ⟨g1, g2, g3⟩ := h
      rw [g1, g2, g3]; rfl
    | false =>
      have e : (bif (a != b) then bif le us a b then bif le us b a then (inrO (inrO (inrO (inrO (some (15:Int))))) : Option (Unit ⊕ (Int ⊕ (Int ⊕ (Unit ⊕ Int))))) else some (Sum.inl ()) else some (Sum.inl ()) else some (Sum.inl ())) = some (Sum.inl ()) := by
        revert h
        cases (a != b) <;> cases le us a b <;> cases le us b a <;> simp
      rw [e, jn_inl, ref03_Check_j3, h4, Bool.false_or]) (by simp only [ref03_Check_l2, up_len, lt_f, cond_false, wrap_succ (show a ≤ 4294967295 by omega)]; rfl)
  simp only [ref03_Check_l1, up_len, lt_t ha, cond_true, get_up ha, Option.bind_some, gd_true (gdn us.length), gd_t, shr_z (hw _ (ub_mem ha)), leq_in hw ha ha, h2, badA]
  cases decide (ub us a < 2 ^ us.length) <;> cases le us a a <;> cases (List.range us.length).any (badR us a) <;> rfl
theorem badA_iff : (List.range us.length).any (badA us) = false ↔ ordP us := by
  have hr : ∀ a b, badR us a b = false ↔ (¬ (a ≠ b ∧ le us a b = true ∧ le us b a = true) ∧ ∀ c, c < us.length → le us a b = true → le us b c = true → le us a c = true) := fun a b => by
    unfold badR
    rw [Bool.or_eq_false_iff, List.any_eq_false]
    simp only [List.mem_range, trn]
    constructor
    · rintro ⟨h1, h2⟩
      refine ⟨fun ⟨g1, g2, g3⟩ => (by rw [g2, g3, bne_iff_ne.2 g1] at h1; cases h1), fun c hc g1 g2 => ?_⟩
      have := h2 c hc
      rw [g1, g2] at this
      simpa using this
    · rintro ⟨h1, h2⟩
      refine ⟨?_, fun c hc => ?_⟩
      · cases g1 : (a != b) with
        | false => rfl
        | true =>
          cases g2 : le us a b with
          | false => rfl
          | true =>
            cases g3 : le us b a with
            | false => rfl
            | true => exact absurd ⟨bne_iff_ne.1 g1, g2, g3⟩ h1
      · cases g1 : le us a b with
        | false => simp
        | true =>
          cases g2 : le us b c with
          | false => simp
          | true => rw [h2 c hc g1 g2]; simp
  rw [List.any_eq_false]
  unfold ordP
  simp only [List.mem_range, badA, Bool.or_eq_true, not_or, Bool.not_eq_true, List.any_eq_false, hr, Bool.not_eq_eq_eq_not, Bool.not_true, Bool.not_eq_false, decide_eq_true_eq]
theorem chk2 (hw : w64 us) (hn : us.length ≤ 16) : ∃ c, loopO (ref03_Check_l5 (up us)) (0:Int) = some c ∧ ((okJ us ∧ c = 0) ∨ (¬ okJ us ∧ c = 15)) := by
  have hlt : ∀ o : Option Nat, decide (idx o < (0:Int)) = !o.isSome := fun o => by
    cases o with
    | none => rfl
    | some i => exact decide_eq_false (by show ¬ ((i : Int) < 0); omega)
  have h := loop_anyN (body := ref03_Check_l5 (up us)) us.length (fun a => (List.range us.length).any fun b => !hasB us a b) (15:Int) (0:Int) (fun a ha => by
    have h2 := loop_anyN (body := ref03_Check_l6 (up us) (a : Int)) us.length (fun b => !hasB us a b) (Sum.inr (15:Int)) (Sum.inl ((a + 1 : Nat) : Int)) (fun b hb => by
      simp only [ref03_Check_l6, up_len, lt_t hb, cond_true, join_eq hw (by omega) ha hb, meet_eq hw (by omega) ha hb, Option.bind_some, hlt, wrap_succ (show b ≤ 4294967295 by omega), hasB]
      cases (fstN us.length (jB us a b)).isSome <;> cases (fstN us.length (mB us a b)).isSome <;> rfl) (by simp only [ref03_Check_l6, up_len, lt_f, cond_false, wrap_succ (show a ≤ 4294967295 by omega)]; rfl)
    simp only [ref03_Check_l5, up_len, lt_t ha, cond_true, h2]) (by simp only [ref03_Check_l5, up_len, lt_f, cond_false]; rfl)
  refine ⟨_, h, ?_⟩
  cases hb : (List.range us.length).any fun a => (List.range us.length).any fun b => !hasB us a b with
  | false =>
    refine .inl ⟨fun a ha b hb' => ?_, rfl⟩
    have := List.any_eq_false.1 hb a (List.mem_range.2 ha)
    rw [Bool.not_eq_true, List.any_eq_false] at this
    have := this b (List.mem_range.2 hb')
    simpa using this
  | true =>
    refine .inr ⟨fun h => ?_, rfl⟩
    obtain ⟨a, ha, h1⟩ := List.any_eq_true.1 hb
    obtain ⟨b, hb', h2⟩ := List.any_eq_true.1 h1
    rw [h a (List.mem_range.1 ha) b (List.mem_range.1 hb')] at h2
    cases h2
theorem check_eq (hw : w64 us) : ∃ c, ref03_Check (up us) = some c ∧ ((us.length < 1 ∨ us.length > 16) ∧ c = 1 ∨ (1 ≤ us.length ∧ us.length ≤ 16) ∧ (ordP us ∧ okJ us ∧ c = 0 ∨ ¬ (ordP us ∧ okJ us) ∧ c = 15)) := by
  by_cases h1 : us.length < 1
  · have d1 : decide ((us.length : Int) < (1:Int)) = true := decide_eq_true (by omega)
    exact ⟨_, by simp only [ref03_Check, up_len, d1, cond_true], .inl ⟨.inl h1, rfl⟩⟩
  have d1 : decide ((us.length : Int) < (1:Int)) = false := decide_eq_false (by omega)
  by_cases h2 : us.length > 16
  · have d2 : decide ((us.length : Int) > (16:Int)) = true := decide_eq_true (by omega)
    exact ⟨_, by simp only [ref03_Check, up_len, d1, d2, cond_true, cond_false], .inl ⟨.inr h2, rfl⟩⟩
  have d2 : decide ((us.length : Int) > (16:Int)) = false := decide_eq_false (by omega)
  have hc := chk1 hw (show us.length ≤ 16 by omega)
  have hi := badA_iff (us := us)
  obtain ⟨c, h3, h4⟩ := chk2 hw (show us.length ≤ 16 by omega)
  have e : ref03_Check (up us) = joinO (loopO (ref03_Check_l1 (up us)) (0:Int)) (ref03_Check_j0 (up us)) := by simp only [ref03_Check, up_len, d1, d2, cond_false]
  rw [e, hc]
  cases hb : (List.range us.length).any (badA us) with
  | true => exact ⟨15, rfl, .inr ⟨⟨by omega, by omega⟩, .inr ⟨fun h => (by have := hi.2 h.1; rw [hb] at this; cases this), rfl⟩⟩⟩
  | false =>
    refine ⟨c, ?_, .inr ⟨⟨by omega, by omega⟩, ?_⟩⟩
    · rw [cond_false, jn_inl, ref03_Check_j0, h3]
    · rcases h4 with ⟨g, rfl⟩ | ⟨g, rfl⟩
      · exact .inl ⟨hi.1 hb, g, rfl⟩
      · exact .inr ⟨fun h => g h.2, rfl⟩
/-! ### What a lattice tells -/
theorem lf_up (us : List Nat) : (latF us).up = up us := rfl
theorem len_eqL (us : List Nat) : label_Lattice_Len (some (latF us)) = some (us.length : Int) := by simp only [label_Lattice_Len, lf_up, up_len]
end Go.Proofs.Ytkjkbfaaigmmcaa
