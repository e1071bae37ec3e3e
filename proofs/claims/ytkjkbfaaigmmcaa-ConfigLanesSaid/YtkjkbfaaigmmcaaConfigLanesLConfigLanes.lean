/- Each lane is of one label and one shard; the last one of the rules: the plain law. -/
import Derived.Test.YtkjkbfaaigmmcaaConfigLanesCgA
set_option linter.unusedVariables false
set_option linter.unusedSimpArgs false
set_option maxRecDepth 100000
namespace Go.Proofs.Ytkjkbfaaigmmcaa
open Go Go.V
section
variable {us : List Nat} {n : Int} {cuts : List Nat}
theorem lnIn (hl : cuts.length ≤ 7) (hu : us.length ≤ 16) {a i : Nat} (ha : a < us.length) (hi : i < cuts.length + 1) : config_Plan_Lane (some (plS us n cuts)) (a : Int) (i : Int) = some ((a * (cuts.length + 1) + i : Nat) : Int) := by
  have d1 : decide ((a : Int) < (0:Int)) = false := decide_eq_false (by omega)
  have d2 : decide ((a : Int) ≥ (us.length : Int)) = false := decide_eq_false (by omega)
  have d3 : decide ((i : Int) < (0:Int)) = false := decide_eq_false (by omega)
  have d4 : decide ((i : Int) ≥ ((cuts.length + 1 : Nat) : Int)) = false := decide_eq_false (by omega)
  have := Nat.mul_le_mul (show a ≤ 16 by omega) (show cuts.length + 1 ≤ 8 by omega)
  have w : IntKind.i64.wrap (((a * (cuts.length + 1) : Nat) : Int) + (i : Int)) = ((a * (cuts.length + 1) + i : Nat) : Int) := by rw [wrap_i64] <;> omega
  simp only [config_Plan_Lane, d1, l0_eq, d2, d3, shards_eq hl, d4, Option.bind_some, cond_false, mul_w (show a ≤ 16 by omega) (show cuts.length + 1 ≤ 8 by omega), w]
theorem lnOut (hl : cuts.length ≤ 7) {a i : Int} (h : ¬ (0 ≤ a ∧ a < us.length ∧ 0 ≤ i ∧ i < ((cuts.length + 1 : Nat) : Int))) : config_Plan_Lane (some (plS us n cuts)) a i = some (-1) := by
  simp only [config_Plan_Lane, l0_eq, shards_eq hl, Option.bind_some]
  by_cases h1 : a < 0
  · rw [decide_eq_true h1]; rfl
  rw [decide_eq_false h1, cond_false]
  by_cases h2 : a ≥ us.length
  · rw [decide_eq_true h2]; rfl
  rw [decide_eq_false h2, cond_false]
  by_cases h3 : i < 0
  · rw [decide_eq_true h3]; rfl
  rw [decide_eq_false h3, cond_false]
  by_cases h4 : i ≥ ((cuts.length + 1 : Nat) : Int)
  · rw [decide_eq_true h4]; rfl
  exact absurd ⟨by omega, by omega, by omega, by omega⟩ h
theorem lnLt {a i s N : Nat} (ha : a < N) (hi : i < s) : a * s + i < N * s := by
  have := Nat.mul_le_mul_right s (show a + 1 ≤ N by omega)
  rw [Nat.succ_mul] at this
  omega
theorem lbIn (hl : cuts.length ≤ 7) (hu : us.length ≤ 16) {a i : Nat} (ha : a < us.length) (hi : i < cuts.length + 1) : config_Plan_Label (some (plS us n cuts)) ((a * (cuts.length + 1) + i : Nat) : Int) = some (a : Int) := by
  have hlt := lnLt ha hi
  generalize hx : a * (cuts.length + 1) + i = x at hlt
  have d1 : decide ((x : Int) < (0:Int)) = false := decide_eq_false (by omega)
  have d2 : decide ((x : Int) ≥ ((us.length * (cuts.length + 1) + 1 : Nat) : Int)) = false := decide_eq_false (by omega)
  have d3 : ((x : Int) == ((us.length * (cuts.length + 1) : Nat) : Int)) = false := beq_eq_false_iff_ne.2 (by omega)
  have hs0 : (!(((cuts.length + 1 : Nat) : Int) == (0:Int))) = true := by
    rw [beq_eq_false_iff_ne.2 (show ((cuts.length + 1 : Nat) : Int) ≠ 0 by omega)]; rfl
  have hd : Int.tdiv (x : Int) ((cuts.length + 1 : Nat) : Int) = (a : Int) := by
    rw [Int.tdiv_eq_ediv_of_nonneg (Int.natCast_nonneg _), ← Int.natCast_ediv, ← hx, Nat.mul_comm, Nat.mul_add_div (by omega), Nat.div_eq_of_lt hi]; rfl
  have w : IntKind.i64.wrap (a : Int) = a := by rw [wrap_i64] <;> omega
  simp only [config_Plan_Label, d1, lanes_eq hl hu, rules_eq hl hu, shards_eq hl, d2, d3, Option.bind_some, cond_false, gd_true hs0, hd, w]
theorem ptIn (hl : cuts.length ≤ 7) (hu : us.length ≤ 16) {a i : Nat} (ha : a < us.length) (hi : i < cuts.length + 1) : config_Plan_Part (some (plS us n cuts)) ((a * (cuts.length + 1) + i : Nat) : Int) = some (i : Int) := by
  have hlt := lnLt ha hi
  generalize hx : a * (cuts.length + 1) + i = x at hlt
  have d1 : decide ((x : Int) < (0:Int)) = false := decide_eq_false (by omega)
  have d2 : decide ((x : Int) ≥ ((us.length * (cuts.length + 1) : Nat) : Int)) = false := decide_eq_false (by omega)
  have hs0 : (!(((cuts.length + 1 : Nat) : Int) == (0:Int))) = true := by
    rw [beq_eq_false_iff_ne.2 (show ((cuts.length + 1 : Nat) : Int) ≠ 0 by omega)]; rfl
  have hd : Int.tmod (x : Int) ((cuts.length + 1 : Nat) : Int) = (i : Int) := by
    rw [tmod_nat, ← hx, Nat.mul_comm, Nat.mul_add_mod, Nat.mod_eq_of_lt hi]
  simp only [config_Plan_Part, d1, rules_eq hl hu, shards_eq hl, d2, Option.bind_some, cond_false, gd_true hs0, hd]
end
theorem configLanes_plain {a0 : Int} {a1 : List Nat} (o0 : (Lit.int .u8 a0).wf = true) (o1 : a1.length ≤ maxLen ∧ ∀ x ∈ a1, (Lit.float .f64 x).wf = true) : law04_ConfigLanes a0 a1 = some true := by
  unfold law04_ConfigLanes
  simp only [cg_awake, Option.bind_some, Bool.not_true, cond_false]
  cases h0 : decide ((a1.length : Int) > (7:Int)) with
  | true => rfl
  | false =>
  have h0 := of_decide_eq_false h0
  have hl : a1.length ≤ 7 := by omega
  have hf : ∀ x ∈ a1, isF x := fun x hx => f64_lt (o1.2 x hx)
  obtain ⟨b, g1, g2, g3⟩ := rising_both (show a1.length ≤ 1000 by omega) hf
  obtain ⟨us, n, cuts, h1, hw, l1, hu, hnew, hn, _⟩ := small_eq (lit_u8.1 o0)
  have hp := new_small (cuts := a1) hn hl hnew g1
  have hp' : config_New { Up := (smC us n cuts).Up, Nodes := (smC us n cuts).Nodes, Cuts := a1, Frame := (smC us n cuts).Frame, Depth := (smC us n cuts).Depth, Quota := (smC us n cuts).Quota, Wide := (smC us n cuts).Wide, Beat := (smC us n cuts).Beat, Elect := (smC us n cuts).Elect } = some (bif b then (some (plS us n a1), 0) else (none, 1)) := hp
  simp only [cond_false, h1, Option.bind_some, hp']
  cases b with
  | false => simp only [cond_false, g2, Option.bind_some]; rfl
  | true =>
  have e0 : ((0:Int) != (0:Int)) = false := rfl
  have eU : (smC us n cuts).Up = up us := rfl
  have eN : (smC us n cuts).Nodes = n := rfl
  have hmle := Nat.mul_le_mul hu (show a1.length + 1 ≤ 8 by omega)
  have ws : IntKind.i64.wrap ((a1.length : Int) + (1:Int)) = ((a1.length + 1 : Nat) : Int) := wrap_succ (by omega)
  have wm : IntKind.i64.wrap ((us.length : Int) * ((a1.length + 1 : Nat) : Int)) = ((us.length * (a1.length + 1) : Nat) : Int) := mul_w hu (by omega)
  have wn : IntKind.i64.wrap (((us.length * (a1.length + 1) : Nat) : Int) + (1:Int)) = ((us.length * (a1.length + 1) + 1 : Nat) : Int) := wrap_succ (by omega)
  have wn1 : IntKind.i64.wrap (((us.length * (a1.length + 1) + 1 : Nat) : Int) - (1:Int)) = ((us.length * (a1.length + 1) : Nat) : Int) := by rw [wrap_i64] <;> omega
  have eq : ∀ z : Int, (z != z) = false := fun z => by simp
  have em : ((-1 : Int) != -1) = false := by decide
  -- the rules' lane
  have hpart : config_Plan_Part (some (plS us n a1)) ((us.length * (a1.length + 1) : Nat) : Int) = some (-1) := by
    have d1 : decide (((us.length * (a1.length + 1) : Nat) : Int) < (0:Int)) = false := decide_eq_false (by omega)
    have d2 : decide (((us.length * (a1.length + 1) : Nat) : Int) ≥ ((us.length * (a1.length + 1) : Nat) : Int)) = true := decide_eq_true (by omega)
    simp only [config_Plan_Part, d1, rules_eq hl hu, d2, Option.bind_some, cond_false, cond_true]
  have hlab : config_Plan_Label (some (plS us n a1)) ((us.length * (a1.length + 1) : Nat) : Int) = some (((srt us)[0]'(by rw [srt_len hu]; omega) : Nat) : Int) := by
    have d1 : decide (((us.length * (a1.length + 1) : Nat) : Int) < (0:Int)) = false := decide_eq_false (by omega)
    have d2 : decide (((us.length * (a1.length + 1) : Nat) : Int) ≥ ((us.length * (a1.length + 1) + 1 : Nat) : Int)) = false := decide_eq_false (by omega)
    have hpl : (plS us n a1).L = some (latF us) := rfl
    simp only [config_Plan_Label, d1, lanes_eq hl hu, rules_eq hl hu, d2, Option.bind_some, cond_false, BEq.rfl, cond_true, hpl, bottom_eq l1 hu]
  have hget : geto (up (srt us)) (0:Int) = some (((srt us)[0]'(by rw [srt_len hu]; omega) : Nat) : Int) := get_srt (i := 0) (by rw [srt_len hu]; omega)
  -- all lanes
  have hl2 : ∀ a : Int, -1 ≤ a ∧ a ≤ us.length → loopO (law04_ConfigLanes_l2 a1 (some (plS us n a1), 0) a (smC us n cuts)) ((-1):Int) = some (Sum.inl (a + 1)) := fun a ha => by
    have wa : IntKind.i64.wrap (a + (1:Int)) = a + 1 := by rw [wrap_i64] <;> omega
    have h := loop_range (body := law04_ConfigLanes_l2 a1 (some (plS us n a1), 0) a (smC us n cuts)) (fun i => (i : Int) - 1) (a1.length + 3) (Sum.inl (a + 1)) (fun i hi => by
      have d : decide ((i : Int) - 1 ≤ ((a1.length + 1 : Nat) : Int)) = true := decide_eq_true (by omega)
      have wi : IntKind.i64.wrap ((i : Int) - 1 + (1:Int)) = ((i + 1 : Nat) : Int) - 1 := by rw [wrap_i64] <;> omega
      simp only [law04_ConfigLanes_l2, ws, d, cond_true, eU, up_len, wi]
      by_cases hin : 0 ≤ a ∧ a < us.length ∧ 0 ≤ (i : Int) - 1 ∧ (i : Int) - 1 < ((a1.length + 1 : Nat) : Int)
      · obtain ⟨x, rfl⟩ := Int.eq_ofNat_of_zero_le hin.1
        obtain ⟨y, hy⟩ := Int.eq_ofNat_of_zero_le hin.2.2.1
        have hx' : x < us.length := by omega
        have hy' : y < a1.length + 1 := by omega
        have d1 : decide ((x : Int) < (0:Int)) = false := decide_eq_false (by omega)
        have d2 : decide ((x : Int) ≥ (us.length : Int)) = false := decide_eq_false (by omega)
        have d3 : decide ((y : Int) < (0:Int)) = false := decide_eq_false (by omega)
        have d4 : decide ((y : Int) ≥ ((a1.length + 1 : Nat) : Int)) = false := decide_eq_false (by omega)
        have hlt := lnLt hx' hy'
        have wx : IntKind.i64.wrap ((x : Int) * ((a1.length + 1 : Nat) : Int)) = ((x * (a1.length + 1) : Nat) : Int) := mul_w (by omega) (by omega)
        have wy : IntKind.i64.wrap (((x * (a1.length + 1) : Nat) : Int) + (y : Int)) = ((x * (a1.length + 1) + y : Nat) : Int) := by rw [wrap_i64] <;> omega
        have hch : config_Plan_Chief (some (plS us n a1)) (x : Int) = some ((x * (a1.length + 1) : Nat) : Int) := by
          have := lnIn (n := n) hl hu hx' (show 0 < a1.length + 1 by omega)
          rw [Nat.add_zero] at this
          show ((config_Plan_Lane (some (plS us n a1)) (x : Int) ((0:Nat) : Int)).bind fun t136 => some t136) = _
          rw [this]; rfl
        rw [hy]
        simp only [lnIn hl hu hx' hy', Option.bind_some, d1, d2, d3, d4, cond_false, wx, wy, eq, lbIn hl hu hx' hy', ptIn hl hu hx' hy', hch]
      · rw [lnOut hl hin, Option.bind_some]
        simp only [em, cond_false]
        cases d1 : decide (a < (0:Int)) with
        | true => rfl
        | false =>
        cases d2 : decide (a ≥ (us.length : Int)) with
        | true => rfl
        | false =>
        cases d3 : decide ((i : Int) - 1 < (0:Int)) with
        | true => rfl
        | false =>
        cases d4 : decide ((i : Int) - 1 ≥ ((a1.length + 1 : Nat) : Int)) with
        | true => rfl
        | false =>
          have k1 := of_decide_eq_false d1
          have k2 := of_decide_eq_false d2
          have k3 := of_decide_eq_false d3
          have k4 := of_decide_eq_false d4
          exact absurd ⟨by omega, by omega, by omega, by omega⟩ hin) (by
      have d : decide (((a1.length + 3 : Nat) : Int) - 1 ≤ ((a1.length + 1 : Nat) : Int)) = false := decide_eq_false (by omega)
      simp only [law04_ConfigLanes_l2, ws, d, cond_false, wa]; rfl)
    exact h
  have hl1 : loopO (law04_ConfigLanes_l1 (smC us n cuts) a1 (some (plS us n a1), 0)) ((-1):Int) = some (Sum.inl ()) := by
    have h := loop_range (body := law04_ConfigLanes_l1 (smC us n cuts) a1 (some (plS us n a1), 0)) (fun i => (i : Int) - 1) (us.length + 2) (Sum.inl ()) (fun i hi => by
      have d : decide ((i : Int) - 1 ≤ (us.length : Int)) = true := decide_eq_true (by omega)
      simp only [law04_ConfigLanes_l1, eU, up_len, d, cond_true, hl2 _ (show -1 ≤ (i : Int) - 1 ∧ (i : Int) - 1 ≤ us.length by omega)]
      congr 2; omega) (by
      have d : decide (((us.length + 2 : Nat) : Int) - 1 ≤ (us.length : Int)) = false := decide_eq_false (by omega)
      simp only [law04_ConfigLanes_l1, eU, up_len, d, cond_false]; rfl)
    exact h
  have hj0 : law04_ConfigLanes_j0 (some (plS us n a1), 0) (smC us n cuts) a1 () = some true := by
    have dm : decide ((-1:Int) < (0:Int)) = true := by decide
    have m1 : config_Plan_Label (some (plS us n a1)) (-1) = some (-1) := by simp only [config_Plan_Label, dm, cond_true]
    have m2 : config_Plan_Part (some (plS us n a1)) (-1) = some (-1) := by simp only [config_Plan_Part, dm, cond_true]
    have d1 : decide (((us.length * (a1.length + 1) + 1 : Nat) : Int) < (0:Int)) = false := decide_eq_false (by omega)
    have d2 : decide (((us.length * (a1.length + 1) + 1 : Nat) : Int) ≥ ((us.length * (a1.length + 1) + 1 : Nat) : Int)) = true := decide_eq_true (by omega)
    have d3 : decide (((us.length * (a1.length + 1) + 1 : Nat) : Int) ≥ ((us.length * (a1.length + 1) : Nat) : Int)) = true := decide_eq_true (by omega)
    have m3 : config_Plan_Label (some (plS us n a1)) ((us.length * (a1.length + 1) + 1 : Nat) : Int) = some (-1) := by simp only [config_Plan_Label, d1, lanes_eq hl hu, d2, Option.bind_some, cond_false, cond_true]
    have m4 : config_Plan_Part (some (plS us n a1)) ((us.length * (a1.length + 1) + 1 : Nat) : Int) = some (-1) := by simp only [config_Plan_Part, d1, rules_eq hl hu, d3, Option.bind_some, cond_false, cond_true]
    have dn : decide ((0:Int) ≤ n) = true := decide_eq_true (by omega)
    have m5 : config_Plan_All (some (plS us n a1)) = some (IntKind.u64.wrap ((iShl .u64 (1:Int) n) - (1:Int))) := by
      show gd (decide ((0:Int) ≤ n)) _ = _
      rw [dn]; rfl
    have wn1 : IntKind.i64.wrap (n - (1:Int)) = n - 1 := by rw [wrap_i64] <;> omega
    have node : ∀ x : Int, config_Plan_Node (some (plS us n a1)) x = some (decide (x ≥ 0) && decide (x < n)) := fun x => by
      show (bif decide (x ≥ 0) then some (decide (x < n)) else some false) = _
      cases decide (x ≥ 0) <;> rfl
    have q1 : (decide (n - 1 ≥ (0:Int)) && decide (n - 1 < n)) = true := by simp; omega
    have q2 : (decide (n ≥ (0:Int)) && decide (n < n)) = false := by simp
    have q3 : (decide ((-1:Int) ≥ (0:Int)) && decide (-1 < n)) = false := by simp
    simp only [law04_ConfigLanes_j0, m1, m2, m3, m4, m5, eU, eN, up_len, ws, wm, wn, Option.bind_some, BEq.rfl, cond_true, gd_true dn, wn1, node, q1, q2, q3, Bool.not_false]
  simp only [cond_true, e0, cond_false, shards_eq hl, Option.bind_some, ws, eq, eU, up_len, wm, wn, lanes_eq hl hu, rules_eq hl hu, wn1, l0_eq, hpart, em, hlab, order_eq hw hu, hget, hl1]
  exact hj0
end Go.Proofs.Ytkjkbfaaigmmcaa
