/- Labels and what is at or below what: the code's bits, plainly. -/
import Derived.Test.YtbdbeenkamcglaaNetApartM
import Derived.Test.YtbdbeenkamcglaaNetApartGv
set_option linter.unusedVariables false
set_option linter.unusedSimpArgs false
set_option maxRecDepth 100000
namespace Go.Proofs.Ytbdbeenkamcglaa
open Go Go.V
def up (us : List Nat) : List Int := us.map fun x : Nat => (x : Int)
def ub (us : List Nat) (a : Nat) : Nat := (us[a]?).getD 0
theorem gd_t {α : Type} {x : Option α} : gd true x = x := rfl
/-- Is a label at or below another one? -/
def le (us : List Nat) (a b : Nat) : Bool := (ub us a).testBit b
/-- Numbers of 64 bits. -/
def w64 (us : List Nat) : Prop := ∀ x ∈ us, x < 2 ^ 64
theorem ub_mem {us : List Nat} {a : Nat} (h : a < us.length) : ub us a ∈ us := by
  unfold ub; rw [List.getElem?_eq_getElem h]; exact List.getElem_mem h
theorem up_len (us : List Nat) : (up us).length = us.length := by simp [up]
theorem get_up {us : List Nat} {a : Nat} (h : a < us.length) : geto (up us) (a : Int) = some ((ub us a : Nat) : Int) := by
  rw [geto_nat, up, List.getElem?_map, List.getElem?_eq_getElem h, ub, List.getElem?_eq_getElem h]; rfl
theorem gdn (a : Nat) : decide ((0:Int) ≤ (a : Int)) = true := by simp
section
variable {us : List Nat}
/-! ### An order -/
def ordP (us : List Nat) : Prop := ∀ a, a < us.length → ub us a < 2 ^ us.length ∧ le us a a = true ∧ ∀ b, b < us.length → ¬ (a ≠ b ∧ le us a b = true ∧ le us b a = true) ∧ ∀ c, c < us.length → le us a b = true → le us b c = true → le us a c = true
/-- What the code asks of two labels. -/
def badO (us : List Nat) (a b : Nat) : Bool := le us a b && (!(bAndNot .u64 (ub us b : Int) (ub us a : Int) == (0:Int)) || (a != b && le us b a))
def ordB (us : List Nat) : Bool := (List.range us.length).all fun a => decide (ub us a < 2 ^ us.length) && (le us a a && !((List.range us.length).any (badO us a)))
theorem orders_eq (hw : w64 us) (hn : us.length ≤ 20) (l : label_Lattice) (hl : l.up = up us) : label_Lattice_orders (some l) = some (ordB us) := by
  have h := loop_allN (body := label_Lattice_orders_l0 l) us.length (fun a => decide (ub us a < 2 ^ us.length) && (le us a a && !((List.range us.length).any (badO us a)))) true false (fun a ha => by
    have hwa := hw _ (ub_mem ha)
    have hin := loop_anyN (body := label_Lattice_orders_l1 l (ub us a : Int) (a : Int)) us.length (badO us a) (Sum.inr false) (Sum.inl ((a + 1 : Nat) : Int)) (fun b hb => by
      have hwb := hw _ (ub_mem hb)
      have e1 : ((a : Int) != (b : Int)) = (a != b) := by
        rw [Bool.eq_iff_iff, bne_iff_ne, bne_iff_ne]
        omega
      simp only [label_Lattice_orders_l1, hl, up_len, lt_t hb, cond_true, gd_true (gdn b), bit_eq hwa, get_up hb, Option.bind_some, gd_true (gdn a), bit_eq hwb, wrap_succ (show b ≤ 4294967295 by omega), e1]
      show (bif le us a b then _ else _) = _
      unfold badO
      rw [show (bAndNot .u64 (ub us b : Int) (ub us a : Int) != (0:Int)) = !(bAndNot .u64 (ub us b : Int) (ub us a : Int) == (0:Int)) from rfl]
      show (bif le us a b then (bif _ then _ else (bif a != b then (bif le us b a then _ else _) else _)) else _) = _
      cases le us a b <;> cases (bAndNot .u64 (ub us b : Int) (ub us a : Int) == (0:Int)) <;> cases (a != b) <;> cases le us b a <;> rfl) (by
      simp only [label_Lattice_orders_l1, hl, up_len, lt_f, cond_false, wrap_succ (show a ≤ 4294967295 by omega)]; rfl)
    simp only [label_Lattice_orders_l0, hl, up_len, lt_t ha, cond_true, get_up ha, Option.bind_some, gd_true (gdn us.length), shr_z hwa, gd_true (gdn a), bit_z hwa, hin]
    show (bif !decide (ub us a < 2 ^ us.length) then _ else (bif !le us a a then _ else _)) = _
    cases decide (ub us a < 2 ^ us.length) <;> cases le us a a <;> cases (List.range us.length).any (badO us a) <;> rfl) (by
    simp only [label_Lattice_orders_l0, hl, up_len, lt_f, cond_false]; rfl)
  simp only [label_Lattice_orders, h]
  unfold ordB
  cases (List.range us.length).all _ <;> rfl
theorem ordB_iff (hw : w64 us) : ordB us = true ↔ ordP us := by
  have hbad : ∀ a b, a < us.length → b < us.length → (badO us a b = false ↔ (le us a b = true → (∀ i, (ub us b).testBit i = true → (ub us a).testBit i = true) ∧ ¬ (a ≠ b ∧ le us b a = true))) := fun a b ha hb => by
    have := andNot_z (hw _ (ub_mem hb)) (hw _ (ub_mem ha))
    unfold badO
    rw [← this]
    cases le us a b <;> cases (bAndNot .u64 (ub us b : Int) (ub us a : Int) == (0:Int)) <;> cases le us b a <;> by_cases h : a = b <;> simp [h]
  unfold ordB ordP
  simp only [List.all_eq_true, List.mem_range, Bool.and_eq_true, decide_eq_true_eq, Bool.not_eq_true', List.any_eq_false, Bool.not_eq_true]
  constructor
  · intro h a ha
    obtain ⟨h1, h2, h3⟩ := h a ha
    refine ⟨h1, h2, fun b hb => ⟨fun ⟨n1, n2, n3⟩ => ((hbad a b ha hb).1 (h3 b hb) n2).2 ⟨n1, n3⟩, fun c hc n1 n2 => ((hbad a b ha hb).1 (h3 b hb) n1).1 c n2⟩⟩
  · intro h a ha
    obtain ⟨h1, h2, h3⟩ := h a ha
    refine ⟨h1, h2, fun b hb => (hbad a b ha hb).2 fun n1 => ⟨fun i hi => ?_, fun ⟨m1, m2⟩ => (h3 b hb).1 ⟨m1, n1, m2⟩⟩⟩
    have hin : i < us.length := by
      rcases Nat.lt_or_ge i us.length with e | e
      · exact e
      · rw [Nat.testBit_lt_two_pow (Nat.lt_of_lt_of_le (h b hb).1 (Nat.pow_le_pow_right (by decide) e))] at hi; cases hi
    exact (h3 b hb).2 i hin n1 hi
/-! ### Least and greatest -/
def jB (us : List Nat) (a b c : Nat) : Bool := (le us a c && le us b c) && (List.range us.length).all fun d => !(le us a d && le us b d) || le us c d
def mB (us : List Nat) (a b c : Nat) : Bool := (le us c a && le us c b) && (List.range us.length).all fun d => !(le us d a && le us d b) || le us d c
def idx (o : Option Nat) : Int := o.elim (-1) fun i => (i : Int)
/-- least, of any labels' bits. -/
theorem least_eq (hn : us.length ≤ 20) {s : Nat} (hs : s < 2 ^ 64) : label_least (s : Int) (up us) = some ((fstN us.length fun c => s.testBit c && (bAndNot .u64 (s : Int) (ub us c : Int) == (0:Int))).elim ((0:Int), false) fun i => ((i : Int), true)) := by
  refine loop_findN (body := label_least_l0 (up us) (s : Int)) us.length _ _ _ (fun c hc => ?_) ?_
  · simp only [label_least_l0, up_len, lt_t hc, cond_true, gd_true (gdn c), bit_eq hs, get_up hc, Option.bind_some, wrap_succ (show c ≤ 4294967295 by omega)]
    cases s.testBit c <;> cases (bAndNot .u64 (s : Int) (ub us c : Int) == (0:Int)) <;> rfl
  · simp only [label_least_l0, up_len, lt_f, cond_false]; rfl
end
end Go.Proofs.Ytbdbeenkamcglaa
