/- The guards and the arguments of the laws on labels. -/
import Derived.Test.YtddhkbholbcebaaLabelOrdersLbT
import Derived.Test.YtddhkbholbcebaaLabelOrdersA
set_option linter.unusedVariables false
set_option linter.unusedSimpArgs false
set_option maxRecDepth 100000
namespace Go.Proofs.Ytddhkbholbcebaa
open Go Go.V
theorem new_ok {us : List Nat} (hw : w64 us) (h1 : 1 ≤ us.length) (hn : us.length ≤ 16) (hP : ordP us) (hJ : okJ us) : label_New (up us) = some (some (latF us), 0) := by
  obtain ⟨r, h2, h3⟩ := new_eq hw (some (latF us), 0) fun _ _ _ _ => fin_eq hn h1
  rcases h3 with ⟨h, _⟩ | ⟨_, h | h⟩
  · omega
  · rw [h2, h.2.2]
  · exact absurd ⟨hP, hJ⟩ h.1
def okJB (us : List Nat) : Bool := (List.range us.length).all fun a => (List.range us.length).all fun b => hasB us a b
theorem okJ_of {us : List Nat} (h : okJB us = true) : okJ us := fun a ha b hb => by
  have := List.all_eq_true.1 h a (List.mem_range.2 ha)
  exact List.all_eq_true.1 this b (List.mem_range.2 hb)
def w64B (us : List Nat) : Bool := us.all fun x => decide (x < 2 ^ 64)
theorem w64_of {us : List Nat} (h : w64B us = true) : w64 us := fun x hx => of_decide_eq_true (List.all_eq_true.1 h x hx)
theorem new_known {us : List Nat} (h1 : w64B us = true) (h2 : ordB us = true) (h3 : okJB us = true) (h4 : 1 ≤ us.length) (h5 : us.length ≤ 16) : label_New (up us) = some (some (latF us), 0) :=
  new_ok (w64_of h1) h4 h5 ((ordB_iff (w64_of h1)).1 h2) (okJ_of h3)
theorem lb_awake : law03_awake = some true := by
  have h := new_known (us := [3, 2]) (by decide +kernel) (by decide +kernel) (by decide +kernel) (by decide) (by decide)
  have j := joinL_in (us := [3, 2]) (a := 0) (b := 1) (by decide) (by decide)
  have r1 := rank_in (us := [3, 2]) (a := 1) (by decide)
  have r0 := rank_in (us := [3, 2]) (a := 0) (by decide)
  rw [show jI [3, 2] 0 1 = 1 by decide +kernel] at j
  rw [show ps [3, 2] 1 = 1 by decide +kernel] at r1
  rw [show ps [3, 2] 0 = 0 by decide +kernel] at r0
  have e : label_New [(3:Int), (2:Int)] = some (some (latF [3, 2]), 0) := h
  have j' : label_Lattice_Join (some (latF [3, 2])) (0:Int) (1:Int) = some 1 := j
  have r1' : label_Lattice_Rank (some (latF [3, 2])) (1:Int) = some 1 := r1
  have r0' : label_Lattice_Rank (some (latF [3, 2])) (0:Int) = some 0 := r0
  simp only [law03_awake, e, Option.bind_some, j', r1', r0']
  rfl
/-- What is told of any labels. -/
theorem any_told {us : List Nat} (hw : w64 us) : ∃ r c, label_New (up us) = some r ∧ ref03_Check (up us) = some c ∧ ((c ≠ 0 ∧ r = (none, c)) ∨ (c = 0 ∧ r = (some (latF us), 0) ∧ 1 ≤ us.length ∧ us.length ≤ 16 ∧ ordP us ∧ okJ us ∧ law03_told (some (latF us)) (up us) = some true)) := by
  obtain ⟨r, h2, h3⟩ := new_eq hw (some (latF us), 0) fun hn h1 _ _ => fin_eq hn h1
  obtain ⟨c, h4, h5⟩ := check_eq hw
  refine ⟨r, c, h2, h4, ?_⟩
  rcases h3 with ⟨h, rfl⟩ | ⟨g, ⟨hP, hJ, rfl⟩ | ⟨hno, rfl⟩⟩
  · rcases h5 with ⟨_, rfl⟩ | ⟨g, _⟩
    · exact .inl ⟨by decide, rfl⟩
    · omega
  · rcases h5 with ⟨h, _⟩ | ⟨_, ⟨_, _, rfl⟩ | ⟨hno, _⟩⟩
    · omega
    · exact .inr ⟨rfl, rfl, g.1, g.2, hP, hJ, told_eq hw g.1 g.2⟩
    · exact absurd ⟨hP, hJ⟩ hno
  · rcases h5 with ⟨h, _⟩ | ⟨_, ⟨hP, hJ, _⟩ | ⟨_, rfl⟩⟩
    · omega
    · exact absurd ⟨hP, hJ⟩ hno
    · exact .inl ⟨by decide, rfl⟩
/-! ### The known lattices -/
/-! ### Labels that are ordered in any way -/
theorem tmod_nat {n k : Nat} : Int.tmod (n : Int) (k : Int) = ((n % k : Nat) : Int) := by rw [Int.tmod_eq_emod_of_nonneg (Int.natCast_nonneg _)]; rfl
theorem set_up {us : List Nat} (hw : w64 us) {i x : Nat} (hx : x < 2 ^ 64) : ∃ vs, (up us).set i (x : Int) = up vs ∧ w64 vs ∧ vs.length = us.length :=
  ⟨us.set i x, up_set us i x, fun y hy => (List.mem_or_eq_of_mem_set hy).elim (hw y) fun e => e ▸ hx, List.length_set⟩
theorem order_any {a0 : Int} {a1 : List Int} (h0 : 0 ≤ a0 ∧ a0 < 256) (h1 : a1.length ≤ maxLen) : ∃ us, law03_order a0 a1 = some (up us) ∧ w64 us ∧ 1 ≤ us.length ∧ us.length ≤ 6 := by
  obtain ⟨n, rfl⟩ := Int.eq_ofNat_of_zero_le h0.1
  have w0 : IntKind.i64.wrap (n : Int) = n := by rw [wrap_i64] <;> omega
  have hm : Int.tmod (n : Int) (6:Int) = ((n % 6 : Nat) : Int) := tmod_nat (k := 6)
  obtain ⟨k, hk⟩ : ∃ k, k = n % 6 + 1 := ⟨_, rfl⟩
  have w1 : IntKind.i64.wrap ((1:Int) + ((n % 6 : Nat) : Int)) = (k : Int) := by rw [wrap_i64] <;> omega
  have hmk : mkOK (k : Int) (k : Int) = true := by simp [mkOK]; omega
  have w2 : IntKind.i64.wrap ((k : Int) - (1:Int)) = (k : Int) - 1 := by rw [wrap_i64] <;> omega
  have hmain : ∃ r, loopO (law03_order_l0 (n : Int) a1) ((k : Int) - 1, List.replicate k (0:Int)) = some r ∧ ∃ us, r = up us ∧ w64 us ∧ us.length = k := by
    refine loop_inv (body := law03_order_l0 (n : Int) a1) (fun s => ∃ us, -1 ≤ s.1 ∧ s.1 < k ∧ s.2 = up us ∧ w64 us ∧ us.length = k) (fun s => (s.1 + 1).toNat) (fun r => ∃ us, r = up us ∧ w64 us ∧ us.length = k) ?_ (s := ((k : Int) - 1, List.replicate k (0:Int))) ⟨List.replicate k 0, by dsimp only; omega, by dsimp only; omega, by simp [up], fun x hx => by rw [List.eq_of_mem_replicate hx]; decide, List.length_replicate⟩
    rintro ⟨z, D⟩ ⟨us, hz1, hz2, rfl, hw, hl⟩
    dsimp only at hz1 hz2
    by_cases hz : z ≥ 0
    · obtain ⟨a, rfl⟩ := Int.eq_ofNat_of_zero_le hz
      have ha : a < us.length := by omega
      left
      have d : decide ((a : Int) ≥ (0:Int)) = true := decide_eq_true hz
      obtain ⟨vs, e1, hv, hvl⟩ := set_up hw (i := a) (x := 2 ^ a) (Nat.pow_lt_pow_right (by decide) (by omega))
      have hin : ∃ r, loopO (law03_order_l1 (n : Int) (a : Int) a1) (((a + 1 : Nat) : Int), up vs) = some r ∧ ∃ us, r = Sum.inl ((a : Int) - 1, up us) ∧ w64 us ∧ us.length = k := by
        refine loop_inv (body := law03_order_l1 (n : Int) (a : Int) a1) (fun s => ∃ (b : Nat) (us : List Nat), s.1 = (b : Int) ∧ b ≤ k ∧ s.2 = up us ∧ w64 us ∧ us.length = k) (fun s => ((k : Int) - s.1).toNat) (fun r => ∃ us, r = Sum.inl ((a : Int) - 1, up us) ∧ w64 us ∧ us.length = k) ?_ (s := (((a + 1 : Nat) : Int), up vs)) ⟨a + 1, vs, rfl, by omega, rfl, hv, by omega⟩
        rintro ⟨z, D⟩ ⟨b, us, hz, hb, rfl, hw, hl⟩
        dsimp only at hz
        subst hz
        have w3 : IntKind.i64.wrap ((a : Int) * (6:Int)) = ((a * 6 : Nat) : Int) := by rw [wrap_i64] <;> omega
        have w4 : IntKind.i64.wrap (((a * 6 : Nat) : Int) + (b : Int)) = ((a * 6 + b : Nat) : Int) := by rw [wrap_i64] <;> omega
        have w5 : IntKind.i64.wrap ((a : Int) - (1:Int)) = (a : Int) - 1 := by rw [wrap_i64] <;> omega
        by_cases hlt : b < k
        · left
          simp only [law03_order_l1, w0, hm, w1, lt_t hlt, cond_true, w3, w4, wrap_succ (show b ≤ 4294967295 by omega)]
          by_cases hi : a * 6 + b < a1.length
          · rw [lt_t hi, cond_true, geto_lt hi, Option.bind_some]
            cases Int.tmod a1[a * 6 + b] (2:Int) == (1:Int) with
            | false => exact ⟨_, rfl, ⟨b + 1, us, rfl, by omega, rfl, hw, hl⟩, by dsimp only; omega⟩
            | true =>
              have ha' : a < us.length := by omega
              have hb' : b < us.length := by omega
              obtain ⟨ts, e2, ht, htl⟩ := set_up hw (i := a) (x := ub us a ||| ub us b) (Nat.or_lt_two_pow (hw _ (ub_mem ha')) (hw _ (ub_mem hb')))
              simp only [cond_true, get_up ha', get_up hb', Option.bind_some, bOr_nat (hw _ (ub_mem ha')) (hw _ (ub_mem hb')), Int.toNat_natCast, e2]
              exact ⟨_, rfl, ⟨b + 1, ts, rfl, by omega, rfl, ht, by omega⟩, by dsimp only; omega⟩
          · have d2 : decide (((a * 6 + b : Nat) : Int) < (a1.length : Int)) = false := decide_eq_false (by omega)
            rw [d2, cond_false]
            exact ⟨_, rfl, ⟨b + 1, us, rfl, by omega, rfl, hw, hl⟩, by dsimp only; omega⟩
        · have d2 : decide ((b : Int) < (k : Int)) = false := decide_eq_false (by omega)
          exact .inr ⟨_, by simp only [law03_order_l1, w0, hm, w1, d2, cond_false, w5]; rfl, us, rfl, hw, hl⟩
      obtain ⟨r, h2, us2, rfl, hw2, hl2⟩ := hin
      refine ⟨_, by simp only [law03_order_l0, d, cond_true, gd_true (gdn a), gd_t, get_up ha, Option.bind_some, iShl_one (show a < 64 by omega), Int.toNat_natCast, e1, wrap_succ (show a ≤ 4294967295 by omega), h2]; rfl, ⟨us2, by dsimp only; omega, by dsimp only; omega, rfl, hw2, hl2⟩, by dsimp only; omega⟩
    · have d : decide (z ≥ (0:Int)) = false := decide_eq_false hz
      exact .inr ⟨_, by simp only [law03_order_l0, d, cond_false]; rfl, us, rfl, hw, hl⟩
  obtain ⟨r, h2, us, rfl, hw, hl⟩ := hmain
  refine ⟨us, ?_, hw, by omega, by omega⟩
  simp only [law03_order, w0, hm, w1, gd_true hmk, w2, Int.toNat_natCast, h2]
end Go.Proofs.Ytddhkbholbcebaa
