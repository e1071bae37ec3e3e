/- The document's check, and what a lattice tells; plainly. -/
import Derived.Test.YtddhkbholbcebaaLabelLawsLbS
set_option linter.unusedVariables false
set_option linter.unusedSimpArgs false
set_option maxRecDepth 100000
namespace Go.Proofs.Ytddhkbholbcebaa
open Go Go.V
variable {us : List Nat}
theorem jn_inl {S R : Type} (x : S) (f : S → Option R) : joinO (some (Sum.inl x)) f = f x := rfl
def trn (us : List Nat) (a b c : Nat) : Bool := le us a b && (le us b c && !le us a c)
def badR (us : List Nat) (a b : Nat) : Bool := ((a != b) && (le us a b && le us b a)) || (List.range us.length).any (trn us a b)
def badA (us : List Nat) (a : Nat) : Bool := !decide (ub us a < 2 ^ us.length) || (!le us a a || (List.range us.length).any (badR us a))
theorem ne_nat (a b : Nat) : ((a : Int) != (b : Int)) = (a != b) := by
  rw [Bool.eq_iff_iff, bne_iff_ne, bne_iff_ne]
  omega
theorem chk1 (hw : w64 us) (hn : us.length ≤ 16) : loopO (ref03_Check_l1 (up us)) (0:Int) = some (bif (List.range us.length).any (badA us) then Sum.inr (15:Int) else Sum.inl ()) := by
  refine loop_anyN (body := ref03_Check_l1 (up us)) us.length (badA us) _ _ (fun a ha => ?_) (by simp only [ref03_Check_l1, up_len, lt_f, cond_false]; rfl)
  have h2 := loop_anyN (body := ref03_Check_l2 (up us) (a : Int)) us.length (badR us a) (Sum.inr (Sum.inr (15:Int))) (Sum.inl ((a + 1 : Nat) : Int)) (fun b hb => by
    have h4 := loop_anyN (body := ref03_Check_l4 (up us) (a : Int) (b : Int)) us.length (trn us a b) (Sum.inr (Sum.inr (Sum.inr (15:Int)))) (Sum.inl ((b + 1 : Nat) : Int)) (fun c hc => by
      simp only [ref03_Check_l4, up_len, lt_t hc, cond_true, leq_in hw ha hb, leq_in hw hb hc, leq_in hw ha hc, Option.bind_some, wrap_succ (show c ≤ 4294967295 by omega), trn]
      cases le us a b <;> cases le us b c <;> cases le us a c <;> rfl) (by simp only [ref03_Check_l4, up_len, lt_f, cond_false, wrap_succ (show b ≤ 4294967295 by omega)]; rfl)
    simp only [ref03_Check_l2, up_len, lt_t hb, cond_true, ne_nat, leq_in hw ha hb, leq_in hw hb ha, Option.bind_some]
    unfold badR
    cases h : (a != b) && (le us a b && le us b a) with
    | true =>
      simp only [Bool.and_eq_true] at h
      obtain ⟨g1, g2, g3⟩ := h
      rw [g1, g2, g3]; rfl
    | false =>
      have e : (bif (a != b) then bif le us a b then bif le us b a then (inrO (inrO (inrO (inrO (some (15:Int))))) : Option (Unit ⊕ (Int ⊕ (Int ⊕ (Unit ⊕ Int))))) else some (Sum.inl ()) else some (Sum.inl ()) else some (Sum.inl ())) = some (Sum.inl ()) := by
        revert h
        cases (a != b) <;> cases le us a b <;> cases le us b a <;> simp
      rw [e, jn_inl, ref03_Check_j3, h4, Bool.false_or]) (by simp only [ref03_Check_l2, up_len, lt_f, cond_false, wrap_succ (show a ≤ 4294967295 by omega)]; rfl)
  simp only [ref03_Check_l1, up_len, lt_t ha, cond_true, get_up ha, Option.bind_some, gd_true (gdn us.length), gd_t, shr_z (hw _ (ub_mem ha)), leq_in hw ha ha, h2, badA]
  cases decide (ub us a < 2 ^ us.length) <;> cases le us a a <;> cases (List.range us.length).any (badR us a) <;> rfl
theorem badA_iff : (List.range us.length).any (badA us) = false ↔ ordP us := by
  have hr : ∀ a b, badR us a b = false ↔ (¬ (a ≠ b ∧ le us a b = true ∧ le us b a = true) ∧ ∀ c, c < us.length → le us a b = true → le us b c = true → le us a c = true) := fun a b => by
    unfold badR
    rw [Bool.or_eq_false_iff, List.any_eq_false]
    simp only [List.mem_range, trn]
    constructor
    · rintro ⟨h1, h2⟩
      refine ⟨fun ⟨g1, g2, g3⟩ => (by rw [g2, g3, bne_iff_ne.2 g1] at h1; cases h1), fun c hc g1 g2 => ?_⟩
      have := h2 c hc
      rw [g1, g2] at this
      simpa using this
    · rintro ⟨h1, h2⟩
      refine ⟨?_, fun c hc => ?_⟩
      · cases g1 : (a != b) with
        | false => rfl
        | true =>
          cases g2 : le us a b with
          | false => rfl
          | true =>
            cases g3 : le us b a with
            | false => rfl
            | true => exact absurd ⟨bne_iff_ne.1 g1, g2, g3⟩ h1
      · cases g1 : le us a b with
        | false => simp
        | true =>
          cases g2 : le us b c with
          | false => simp
          | true => rw [h2 c hc g1 g2]; simp
  rw [List.any_eq_false]
  unfold ordP
  simp only [List.mem_range, badA, Bool.or_eq_true, not_or, Bool.not_eq_true, List.any_eq_false, hr, Bool.not_eq_eq_eq_not, Bool.not_true, Bool.not_eq_false, decide_eq_true_eq]
theorem chk2 (hw : w64 us) (hn : us.length ≤ 16) : ∃ c, loopO (ref03_Check_l5 (up us)) (0:Int) = some c ∧ ((okJ us ∧ c = 0) ∨ (¬ okJ us ∧ c = 15)) := by
  have hlt : ∀ o : Option Nat, decide (idx o < (0:Int)) = !o.isSome := fun o => by
    cases o with
    | none => rfl
    | some i => exact decide_eq_false (by show ¬ ((i : Int) < 0); omega)
  have h := loop_anyN (body := ref03_Check_l5 (up us)) us.length (fun a => (List.range us.length).any fun b => !hasB us a b) (15:Int) (0:Int) (fun a ha => by
    have h2 := loop_anyN (body := ref03_Check_l6 (up us) (a : Int)) us.length (fun b => !hasB us a b) (Sum.inr (15:Int)) (Sum.inl ((a + 1 : Nat) : Int)) (fun b hb => by
      simp only [ref03_Check_l6, up_len, lt_t hb, cond_true, join_eq hw (by omega) ha hb, meet_eq hw (by omega) ha hb, Option.bind_some, hlt, wrap_succ (show b ≤ 4294967295 by omega), hasB]
      cases (fstN us.length (jB us a b)).isSome <;> cases (fstN us.length (mB us a b)).isSome <;> rfl) (by simp only [ref03_Check_l6, up_len, lt_f, cond_false, wrap_succ (show a ≤ 4294967295 by omega)]; rfl)
    simp only [ref03_Check_l5, up_len, lt_t ha, cond_true, h2]) (by simp only [ref03_Check_l5, up_len, lt_f, cond_false]; rfl)
  refine ⟨_, h, ?_⟩
  cases hb : (List.range us.length).any fun a => (List.range us.length).any fun b => !hasB us a b with
  | false =>
    refine .inl ⟨fun a ha b hb' => ?_, rfl⟩
    have := List.any_eq_false.1 hb a (List.mem_range.2 ha)
    rw [Bool.not_eq_true, List.any_eq_false] at this
    have := this b (List.mem_range.2 hb')
    simpa using this
  | true =>
    refine .inr ⟨fun h => ?_, rfl⟩
    obtain ⟨a, ha, h1⟩ := List.any_eq_true.1 hb
    obtain ⟨b, hb', h2⟩ := List.any_eq_true.1 h1
    rw [h a (List.mem_range.1 ha) b (List.mem_range.1 hb')] at h2
    cases h2
theorem check_eq (hw : w64 us) : ∃ c, ref03_Check (up us) = some c ∧ ((us.length < 1 ∨ us.length > 16) ∧ c = 1 ∨ (1 ≤ us.length ∧ us.length ≤ 16) ∧ (ordP us ∧ okJ us ∧ c = 0 ∨ ¬ (ordP us ∧ okJ us) ∧ c = 15)) := by
  by_cases h1 : us.length < 1
  · have d1 : decide ((us.length : Int) < (1:Int)) = true := decide_eq_true (by omega)
    exact ⟨_, by simp only [ref03_Check, up_len, d1, cond_true], .inl ⟨.inl h1, rfl⟩⟩
  have d1 : decide ((us.length : Int) < (1:Int)) = false := decide_eq_false (by omega)
  by_cases h2 : us.length > 16
  · have d2 : decide ((us.length : Int) > (16:Int)) = true := decide_eq_true (by omega)
    exact ⟨_, by simp only [ref03_Check, up_len, d1, d2, cond_true, cond_false], .inl ⟨.inr h2, rfl⟩⟩
  have d2 : decide ((us.length : Int) > (16:Int)) = false := decide_eq_false (by omega)
  have hc := chk1 hw (show us.length ≤ 16 by omega)
  have hi := badA_iff (us := us)
  obtain ⟨c, h3, h4⟩ := chk2 hw (show us.length ≤ 16 by omega)
  have e : ref03_Check (up us) = joinO (loopO (ref03_Check_l1 (up us)) (0:Int)) (ref03_Check_j0 (up us)) := by simp only [ref03_Check, up_len, d1, d2, cond_false]
  rw [e, hc]
  cases hb : (List.range us.length).any (badA us) with
  | true => exact ⟨15, rfl, .inr ⟨⟨by omega, by omega⟩, .inr ⟨fun h => (by have := hi.2 h.1; rw [hb] at this; cases this), rfl⟩⟩⟩
  | false =>
    refine ⟨c, ?_, .inr ⟨⟨by omega, by omega⟩, ?_⟩⟩
    · rw [cond_false, jn_inl, ref03_Check_j0, h3]
    · rcases h4 with ⟨g, rfl⟩ | ⟨g, rfl⟩
      · exact .inl ⟨hi.1 hb, g, rfl⟩
      · exact .inr ⟨fun h => g h.2, rfl⟩
/-! ### What a lattice tells -/
def inR (us : List Nat) (a : Int) : Bool := decide (a ≥ (0:Int)) && decide (a < (us.length : Int))
theorem inR_nat {a : Int} (h : inR us a = true) : ∃ k : Nat, a = (k : Int) ∧ k < us.length := by
  simp only [inR, Bool.and_eq_true, decide_eq_true_eq] at h
  obtain ⟨k, rfl⟩ := Int.eq_ofNat_of_zero_le h.1
  exact ⟨k, rfl, by omega⟩
theorem inR_of {k : Nat} (h : k < us.length) : inR us (k : Int) = true := by simp [inR, h]
theorem lf_up (us : List Nat) : (latF us).up = up us := rfl
theorem lf_join (us : List Nat) : (latF us).join = tab us.length fun x => tab us.length (jI us x) := rfl
theorem lf_meet (us : List Nat) : (latF us).meet = tab us.length fun x => tab us.length (mI us x) := rfl
theorem lf_rank (us : List Nat) : (latF us).rank = tab us.length (ps us) := rfl
theorem len_eqL (us : List Nat) : label_Lattice_Len (some (latF us)) = some (us.length : Int) := by simp only [label_Lattice_Len, lf_up, up_len]
theorem is_eq (us : List Nat) (a : Int) : label_Lattice_Is (some (latF us)) a = some (inR us a) := by
  simp only [label_Lattice_Is, len_eqL, Option.bind_some, inR]
  cases decide (a ≥ (0:Int)) <;> rfl
theorem leqL_in (hw : w64 us) {a b : Nat} (ha : a < us.length) (hb : b < us.length) : label_Lattice_Leq (some (latF us)) (a : Int) (b : Int) = some (le us a b) := by
  simp only [label_Lattice_Leq, is_eq, inR_of ha, inR_of hb, Option.bind_some, cond_true, lf_up, get_up ha, gd_true (gdn b), gd_t, bit_eq (hw _ (ub_mem ha)), le]
theorem leqL_out {a b : Int} (h : (inR us a && inR us b) = false) : label_Lattice_Leq (some (latF us)) a b = some false := by
  simp only [label_Lattice_Leq, is_eq, Option.bind_some]
  cases h1 : inR us a with
  | false => rfl
  | true => rw [h1, Bool.true_and] at h; rw [h]; rfl
theorem leqR_out {a b : Int} (h : (inR us a && inR us b) = false) : ref03_Leq (up us) a b = some false := leq_out fun ⟨h1, h2, h3, h4⟩ => by
  simp [inR, h1, h2, h3, h4] at h
theorem joinL_in {a b : Nat} (ha : a < us.length) (hb : b < us.length) : label_Lattice_Join (some (latF us)) (a : Int) (b : Int) = some (jI us a b) := by
  simp only [label_Lattice_Join, is_eq, inR_of ha, inR_of hb, Option.bind_some, Bool.not_true, cond_false, lf_join, get_tab _ ha, get_tab _ hb]
theorem meetL_in {a b : Nat} (ha : a < us.length) (hb : b < us.length) : label_Lattice_Meet (some (latF us)) (a : Int) (b : Int) = some (mI us a b) := by
  simp only [label_Lattice_Meet, is_eq, inR_of ha, inR_of hb, Option.bind_some, Bool.not_true, cond_false, lf_meet, get_tab _ ha, get_tab _ hb]
theorem joinL_out {a b : Int} (h : (inR us a && inR us b) = false) : label_Lattice_Join (some (latF us)) a b = some (-1) := by
  simp only [label_Lattice_Join, is_eq, Option.bind_some]
  cases h1 : inR us a with
  | false => rfl
  | true => rw [h1, Bool.true_and] at h; rw [h]; rfl
theorem meetL_out {a b : Int} (h : (inR us a && inR us b) = false) : label_Lattice_Meet (some (latF us)) a b = some (-1) := by
  simp only [label_Lattice_Meet, is_eq, Option.bind_some]
  cases h1 : inR us a with
  | false => rfl
  | true => rw [h1, Bool.true_and] at h; rw [h]; rfl
theorem rank_in {a : Nat} (ha : a < us.length) : label_Lattice_Rank (some (latF us)) (a : Int) = some (ps us a) := by
  simp only [label_Lattice_Rank, is_eq, inR_of ha, Option.bind_some, Bool.not_true, cond_false, lf_rank, get_tab _ ha]
theorem rank_out {a : Int} (h : inR us a = false) : label_Lattice_Rank (some (latF us)) a = some (-1) := by
  simp only [label_Lattice_Rank, is_eq, h, Option.bind_some]; rfl
theorem ps_at (hn : us.length ≤ 16) {i : Nat} (hi : i < (srt us).length) : ps us (srt us)[i] = (i : Int) := by rw [ps, idx_at hn hi]
theorem get_srt {i : Nat} (hi : i < (srt us).length) : geto (up (srt us)) (i : Int) = some (((srt us)[i] : Nat) : Int) := by rw [get_up hi, ub, List.getElem?_eq_getElem hi]; rfl
/-- What is at or below a number. -/
def bel (us : List Nat) (a : Int) (b : Nat) : Bool := inR us a && (decide (b < us.length) && le us b a.toNat)
theorem below_step (hw : w64 us) (hn : us.length ≤ 16) {a b : Int} (ha : -1 ≤ a ∧ a ≤ us.length) (hb : -1 ≤ b ∧ b ≤ us.length) {out : List Int} (ho : out.length ≤ 20) :
    law03_told_l4 (up us) a (some (latF us)) (out, b) = some (Sum.inl (bif (decide (b ≥ 0) && bel us a b.toNat) then out ++ [b] else out, b + 1)) := by
  have d : decide (b ≤ (us.length : Int)) = true := decide_eq_true hb.2
  have w : IntKind.i64.wrap (b + (1:Int)) = b + 1 := by rw [wrap_i64] <;> omega
  have hz : (bif (decide (a ≥ (0:Int))) then (bif (decide (a < (us.length : Int))) then (bif (decide (b ≥ (0:Int))) then (some (decide (b < (us.length : Int)))) else (some false)) else (some false)) else (some false)) = some (inR us a && inR us b) := by
    unfold inR
    cases decide (a ≥ (0:Int)) <;> cases decide (a < (us.length : Int)) <;> cases decide (b ≥ (0:Int)) <;> rfl
  simp only [law03_told_l4, up_len, d, cond_true, hz, Option.bind_some, law03_told_j5]
  have hr : room out [b] = true := room_one (by omega)
  have hj6 : ∀ x : Bool, ref03_Leq (up us) b a = some x → x = (decide (b ≥ 0) && bel us a b.toNat) → law03_told_j6 (up us) b a out () = some (Sum.inl (bif (decide (b ≥ 0) && bel us a b.toNat) then out ++ [b] else out, b + 1)) := fun x h1 h2 => by
    simp only [law03_told_j6, h1, Option.bind_some, gd_true hr, w, h2]
    cases decide (b ≥ 0) && bel us a b.toNat <;> rfl
  cases hin : inR us a && inR us b with
  | true =>
    rw [Bool.and_eq_true] at hin
    obtain ⟨x, rfl, hx⟩ := inR_nat hin.1
    obtain ⟨y, rfl, hy⟩ := inR_nat hin.2
    have eq : ∀ z : Int, (z != z) = false := fun z => by simp
    simp only [leqL_in hw hx hy, leq_in hw hx hy, Option.bind_some, BEq.rfl, Bool.not_true, cond_false, cond_true, joinL_in hx hy, join_eq hw (by omega) hx hy, meetL_in hx hy, meet_eq hw (by omega) hx hy]
    rw [show jI us x y = idx (fstN us.length (jB us x y)) from rfl, show mI us x y = idx (fstN us.length (mB us x y)) from rfl, eq, cond_false, eq, cond_false, jn_inl]
    refine hj6 _ (leq_in hw hy hx) ?_
    simp [bel, inR_of hx, hy]
  | false =>
    have hin2 : (inR us b && inR us a) = false := by rw [Bool.and_comm]; exact hin
    have e1 : ((-1 : Int) != -1) = false := by decide
    simp only [leqL_out hin, leqR_out hin, Option.bind_some, BEq.rfl, Bool.not_true, cond_false, joinL_out hin, meetL_out hin, e1]
    rw [jn_inl]
    refine hj6 _ (leqR_out hin2) ?_
    unfold bel
    cases ha' : inR us a with
    | false => simp
    | true =>
      rw [ha', Bool.true_and] at hin
      by_cases h0 : b ≥ 0
      · have : ¬ b.toNat < us.length := fun h => by
          have : inR us b = true := by simp only [inR, Bool.and_eq_true, decide_eq_true_eq]; omega
          rw [hin] at this; cases this
        simp [this]
      · simp [h0]
def blw (us : List Nat) (a : Int) : List Int := up ((List.range us.length).filter (bel us a))
theorem below_ref (hw : w64 us) (hn : us.length ≤ 16) {a : Int} (ha : -1 ≤ a ∧ a ≤ us.length) : loopO (law03_told_l4 (up us) a (some (latF us))) ([], ((-1):Int)) = some (Sum.inl (blw us a)) := by
  have hlen : ∀ i, (up ((List.range i).filter (bel us a))).length ≤ i := fun i => by
    rw [up_len]
    have := List.length_filter_le (bel us a) (List.range i)
    rwa [List.length_range] at this
  have h := loop_range (body := law03_told_l4 (up us) a (some (latF us))) (fun i => (up ((List.range (i - 1)).filter (bel us a)), (i : Int) - 1)) (us.length + 2) (Sum.inl (blw us a)) (fun i hi => by
    rw [below_step hw hn ha ⟨by omega, by omega⟩ (by have := hlen (i - 1); omega)]
    by_cases h0 : i = 0
    · subst h0; rfl
    · obtain ⟨k, rfl⟩ : ∃ k, i = k + 1 := ⟨i - 1, by omega⟩
      have e1 : (((k + 1 : Nat) : Int) - 1) = (k : Int) := by omega
      have e2 : ((k + 1 + 1 : Nat) : Int) - 1 = ((k + 1 : Nat) : Int) := by omega
      rw [e1, e2, Int.toNat_natCast, Nat.add_sub_cancel, Nat.add_sub_cancel, List.range_succ, List.filter_append]
      have d : decide ((k : Int) ≥ 0) = true := by simp
      rw [d, Bool.true_and]
      cases hb : bel us a k <;> simp [hb, up]) (by
    have e1 : (((us.length + 2 : Nat) : Int) - 1) = ((us.length : Int) + 1) := by omega
    have d : decide ((us.length : Int) + 1 ≤ (us.length : Int)) = false := decide_eq_false (by omega)
    rw [e1]
    simp only [law03_told_l4, up_len, d, cond_false]
    have : (List.range (us.length + 2 - 1)).filter (bel us a) = (List.range us.length).filter (bel us a) := by
      rw [show us.length + 2 - 1 = us.length + 1 by omega, List.range_succ, List.filter_append]
      have : bel us a us.length = false := by simp [bel]
      simp [this]
    rw [this]; rfl)
  exact h
theorem below_eq (hw : w64 us) (hn : us.length ≤ 16) (a : Int) : label_Lattice_Below (some (latF us)) a = some (blw us a) := by
  have h := loop_fmapN (body := label_Lattice_Below_l0 (us.length : Int) (some (latF us)) a) us.length (bel us a) (fun b => (b : Int)) (fun out => out) (fun b hb out ho => by
    have hr : room out [(b : Int)] = true := room_one (by omega)
    have hl : label_Lattice_Leq (some (latF us)) (b : Int) a = some (bel us a b) := by
      cases hin : inR us a with
      | true =>
        obtain ⟨x, rfl, hx⟩ := inR_nat hin
        rw [leqL_in hw hb hx]; simp [bel, hin, hb]
      | false => rw [leqL_out (by rw [hin]; simp)]; simp [bel, hin]
    simp only [label_Lattice_Below_l0, lt_t hb, cond_true, hl, Option.bind_some, gd_true hr, wrap_succ (show b ≤ 4294967295 by omega)]
    cases bel us a b <;> rfl) (fun out _ => by simp only [label_Lattice_Below_l0, lt_f, cond_false]; rfl)
  simp only [label_Lattice_Below, len_eqL, Option.bind_some, h]; rfl
theorem told_eq (hw : w64 us) (h1 : 1 ≤ us.length) (hn : us.length ≤ 16) : law03_told (some (latF us)) (up us) = some true := by
  have hsl := srt_len hn
  have hl1 : loopO (law03_told_l1 (up us) (up (srt us)) (up (srt us)) (some (latF us))) (0:Int) = some (Sum.inl ()) := by
    have h := loop_anyN (body := law03_told_l1 (up us) (up (srt us)) (up (srt us)) (some (latF us))) us.length (fun _ => false) (Sum.inr false) (Sum.inl ()) (fun i hi => by
      have hi' : i < (srt us).length := by omega
      have e : ∀ z : Int, (z != z) = false := fun z => by simp
      simp only [law03_told_l1, up_len, lt_t hi, cond_true, get_srt hi', Option.bind_some, e, cond_false, rank_in (srt_mem.1 (List.getElem_mem hi')), ps_at hn hi', wrap_succ (show i ≤ 4294967295 by omega)]) (by simp only [law03_told_l1, up_len, lt_f, cond_false]; rfl)
    rw [h]
    have e : (List.range us.length).any (fun _ => false) = false := List.any_eq_false.2 fun _ _ => by simp
    rw [e]; rfl
  have hj3 : ∀ a : Int, -1 ≤ a ∧ a ≤ us.length → law03_told_j3 (some (latF us)) a (up us) (blw us a) = some (Sum.inl (a + 1)) := fun a ha => by
    have w : IntKind.i64.wrap (a + (1:Int)) = a + 1 := by rw [wrap_i64] <;> omega
    have hbl : (blw us a).length ≤ 16 := by
      unfold blw; rw [up_len]
      have := List.length_filter_le (bel us a) (List.range us.length)
      rw [List.length_range] at this; omega
    have h8 : law03_told_j7 (blw us a) (blw us a) a () = some (Sum.inl (a + 1)) := by
      have h := loop_anyN (body := law03_told_l8 (blw us a) (blw us a) a) (blw us a).length (fun _ => false) (Sum.inr false) (Sum.inl (a + 1)) (fun i hi => by
        have e : ∀ z : Int, (z != z) = false := fun z => by simp
        simp only [law03_told_l8, lt_t hi, cond_true, geto_lt hi, Option.bind_some, e, cond_false, wrap_succ (show i ≤ 4294967295 by omega)]) (by simp only [law03_told_l8, lt_f, cond_false, w]; rfl)
      rw [law03_told_j7, h]
      have e : (List.range (blw us a).length).any (fun _ => false) = false := List.any_eq_false.2 fun _ _ => by simp
      rw [e]; rfl
    have e0 : (((blw us a).length : Int) != ((blw us a).length : Int)) = false := by simp
    simp only [law03_told_j3, below_eq hw hn, Option.bind_some, e0, cond_false, is_eq, up_len]
    have e1 : ((-1 : Int) != -1) = false := by decide
    cases hin : inR us a with
    | true =>
      have hd : decide (a ≥ 0) = true ∧ decide (a < (us.length : Int)) = true := by simpa [inR] using hin
      simp only [hd.1, hd.2, cond_true, BEq.rfl, Bool.not_true, cond_false]
      rw [jn_inl]; exact h8
    | false =>
      by_cases h0 : a ≥ 0
      · have h2 : decide (a < (us.length : Int)) = false := by
          simp only [inR, decide_eq_true h0, Bool.true_and] at hin; exact hin
        simp only [decide_eq_true h0, h2, cond_true, BEq.rfl, Bool.not_true, cond_false, Bool.not_false, rank_out hin, Option.bind_some, e1]
        rw [jn_inl]; exact h8
      · simp only [decide_eq_false h0, cond_false, BEq.rfl, Bool.not_true, Bool.not_false, cond_true, rank_out hin, Option.bind_some, e1]
        rw [jn_inl]; exact h8
  have hj0 : law03_told_j0 (up us) (some (latF us)) () = some true := by
    have h := loop_range (body := law03_told_l2 (up us) (some (latF us))) (fun i => (i : Int) - 1) (us.length + 2) true (fun i hi => by
      have d : decide ((i : Int) - 1 ≤ (us.length : Int)) = true := decide_eq_true (by omega)
      simp only [law03_told_l2, up_len, d, cond_true, below_ref hw hn (a := (i : Int) - 1) ⟨by omega, by omega⟩]
      rw [jn_inl, hj3 _ ⟨by omega, by omega⟩]
      congr 2; omega) (by
      have d : decide (((us.length + 2 : Nat) : Int) - 1 ≤ (us.length : Int)) = false := decide_eq_false (by omega)
      simp only [law03_told_l2, up_len, d, cond_false]; rfl)
    exact h
  have e0 : ∀ z : Int, (z != z) = false := fun z => by simp
  have hclone : slices_Clone_int_int (up (srt us)) = some (up (srt us)) := gd_true (room_le (by rw [up_len]; simp; omega))
  have hord : label_Lattice_Order (some (latF us)) = some (up (srt us)) := by
    show ((slices_Clone_int_int (up (srt us))).bind fun t94 => some t94) = _
    rw [hclone]; rfl
  have g0 : geto (up (srt us)) (0:Int) = some (((srt us)[0]'(by omega) : Nat) : Int) := get_srt (i := 0) (by omega)
  have hbot : label_Lattice_Bottom (some (latF us)) = some (((srt us)[0]'(by omega) : Nat) : Int) := by
    show ((geto (up (srt us)) (0:Int)).bind fun x => some x) = _
    rw [g0]; rfl
  have w1 : IntKind.i64.wrap ((us.length : Int) - (1:Int)) = ((us.length - 1 : Nat) : Int) := wrap_sub (a := us.length) (b := 1) (by omega) (by omega)
  have g1 : geto (up (srt us)) ((us.length - 1 : Nat) : Int) = some (((srt us)[us.length - 1]'(by omega) : Nat) : Int) := get_srt (by omega)
  have htop : label_Lattice_Top (some (latF us)) = some (((srt us)[us.length - 1]'(by omega) : Nat) : Int) := by
    show ((geto (up (srt us)) (IntKind.i64.wrap (((up (srt us)).length : Int) - (1:Int)))).bind fun x => some x) = _
    have e : ((up (srt us)).length : Int) = (us.length : Int) := by rw [up_len, hsl]
    rw [e, w1, g1]; rfl
  simp only [law03_told, len_eqL, up_len, Option.bind_some, e0, cond_false, order_eq hw hn, hord, hsl, g0, hbot, w1, g1, htop, hl1]
  exact hj0
end Go.Proofs.Ytddhkbholbcebaa
