/- Configs: which are right, and the plan of one; plainly. -/
import Derived.Test.YtkjkbfaaigmmcaaConfigLanesLbW
import Derived.Test.YtkjkbfaaigmmcaaConfigLanesFltR
import Derived.Test.YtkjkbfaaigmmcaaConfigLanesFlt
set_option linter.unusedVariables false
set_option linter.unusedSimpArgs false
set_option maxRecDepth 100000
namespace Go.Proofs.Ytkjkbfaaigmmcaa
open Go Go.V
def isF (x : Nat) : Prop := x < 18446744073709551616
theorem less_eq {x y : Nat} (hx : isF x) (hy : isF y) : number_Less x y = some (decide (fRank x < fRank y)) := by simp only [number_Less, rank_eq hx, rank_eq hy, Option.bind_some]
theorem rise_loop {body : Int → Option (Int ⊕ Bool)} (l : List Nat) (hl : l.length ≤ 1000)
    (h1 : ∀ (i : Nat) (h : i + 1 < l.length), body ((i + 1 : Nat) : Int) = some (bif decide (fRank l[i] < fRank l[i + 1]) then .inl ((i + 2 : Nat) : Int) else .inr false))
    (h2 : ∀ i : Nat, l.length ≤ i + 1 → body ((i + 1 : Nat) : Int) = some (.inr true)) : ∃ b, loopO body (1:Int) = some b ∧ (b = true ↔ Rise fRank l) := by
  refine loop_inv (body := body) (fun s => ∃ i : Nat, s = ((i + 1 : Nat) : Int) ∧ Rise fRank (l.take (i + 1))) (fun s => ((l.length : Int) - s).toNat) (fun b => b = true ↔ Rise fRank l) ?_ (s := (1:Int)) ⟨0, rfl, ?_⟩
  · rintro s ⟨i, rfl, hr⟩
    by_cases hlt : i + 1 < l.length
    · have hi : i < l.length := by omega
      have ht : l.take (i + 2) = l.take (i + 1) ++ [l[i + 1]] := List.take_succ_eq_append_getElem hlt
      by_cases hk : fRank l[i] < fRank l[i + 1]
      · refine .inl ⟨_, by rw [h1 i hlt, decide_eq_true hk, cond_true], ⟨i + 1, rfl, ?_⟩, by omega⟩
        rw [ht]
        refine List.pairwise_append.2 ⟨hr, List.pairwise_singleton _ _, fun x hx y hy => ?_⟩
        cases List.mem_singleton.1 hy
        obtain ⟨j, hj, rfl⟩ := List.mem_iff_getElem.1 hx
        rw [List.length_take] at hj
        have hji : j ≤ i := by omega
        rw [List.getElem_take]
        rcases Nat.eq_or_lt_of_le hji with e | e
        · subst e; exact hk
        · have h3 := hr.lt (a := j) (b := i) (by rw [List.length_take]; omega) (by rw [List.length_take]; omega) e
          rw [List.getElem_take, List.getElem_take] at h3
          omega
      · exact .inr ⟨false, by rw [h1 i hlt, decide_eq_false hk, cond_false], ⟨fun h => (by cases h), fun h => absurd (h.lt hi hlt (by omega)) hk⟩⟩
    · refine .inr ⟨true, h2 i (by omega), ⟨fun _ => ?_, fun _ => rfl⟩⟩
      rwa [List.take_of_length_le (by omega)] at hr
  · cases l with
    | nil => exact List.Pairwise.nil
    | cons x l => exact List.pairwise_singleton _ _
theorem rising_n {l : List Nat} (hl : l.length ≤ 1000) (hf : ∀ x ∈ l, isF x) : ∃ b, number_Rising l = some b ∧ (b = true ↔ Rise fRank l) := by
  refine rise_loop (body := number_Rising_l0 l) l hl (fun i h => ?_) (fun i h => ?_)
  · have w : IntKind.i64.wrap (((i + 1 : Nat) : Int) - (1:Int)) = (i : Int) := by rw [wrap_i64] <;> omega
    have hi : i < l.length := by omega
    simp only [number_Rising_l0, lt_t h, cond_true, w, geto_lt hi, geto_lt h, Option.bind_some, less_eq (hf _ (List.getElem_mem hi)) (hf _ (List.getElem_mem h)), wrap_succ (show i + 1 ≤ 4294967295 by omega)]
    cases decide (fRank l[i] < fRank l[i + 1]) <;> rfl
  · have d : decide (((i + 1 : Nat) : Int) < (l.length : Int)) = false := decide_eq_false (by omega)
    simp only [number_Rising_l0, d, cond_false]; rfl
theorem rising_r {l : List Nat} (hl : l.length ≤ 1000) (hf : ∀ x ∈ l, isF x) : ∃ b, ref01_Rising l = some b ∧ (b = true ↔ Rise fRank l) := by
  refine rise_loop (body := ref01_Rising_l0 l) l hl (fun i h => ?_) (fun i h => ?_)
  · have w : IntKind.i64.wrap (((i + 1 : Nat) : Int) - (1:Int)) = (i : Int) := by rw [wrap_i64] <;> omega
    have hi : i < l.length := by omega
    simp only [ref01_Rising_l0, lt_t h, cond_true, w, geto_lt hi, geto_lt h, Option.bind_some, ahead_eq (hf _ (List.getElem_mem hi)) (hf _ (List.getElem_mem h)), wrap_succ (show i + 1 ≤ 4294967295 by omega)]
    cases decide (fRank l[i] < fRank l[i + 1]) <;> rfl
  · have d : decide (((i + 1 : Nat) : Int) < (l.length : Int)) = false := decide_eq_false (by omega)
    simp only [ref01_Rising_l0, d, cond_false]; rfl
theorem rising_both {l : List Nat} (hl : l.length ≤ 1000) (hf : ∀ x ∈ l, isF x) : ∃ b, number_Rising l = some b ∧ ref01_Rising l = some b ∧ (b = true ↔ Rise fRank l) := by
  obtain ⟨b, h1, h2⟩ := rising_n hl hf
  obtain ⟨c, h3, h4⟩ := rising_r hl hf
  have : b = c := by rw [Bool.eq_iff_iff, h2, h4]
  subst this
  exact ⟨b, h1, h3, h2⟩
/-- What a config's numbers come to. -/
def okC (c : api_Config) (b : Bool) : Bool := !decide (c.Nodes < 1) && (!decide (c.Nodes > 7) && (!decide ((c.Cuts.length : Int) ≥ 8) && (b && (!decide (c.Frame < 64) && (!decide (c.Frame > 4096) && (!decide (c.Depth < 1) && (!decide (c.Depth > 65536) && (!decide (c.Quota < 1) && (!decide (c.Quota > 268435456) && (!decide (c.Wide < 0) && (!decide (c.Wide > 256) && (!decide (c.Beat < 1) && (!decide (c.Elect ≤ c.Beat) && !decide (c.Elect > 1000))))))))))))))
theorem new_c (c : api_Config) {b : Bool} (hb : number_Rising c.Cuts = some b) : config_New c = bif okC c b then (label_New c.Up).bind fun t => bif (t.2 != (0:Int)) then some (none, t.2) else some (some ({ C := c, L := t.1 } : config_Plan), (0:Int)) else some (none, 1) := by
  delta config_New config_New_j0 config_New_j1 config_New_j2
  simp only [hb, Option.bind_some, okC]
  cases decide (c.Nodes < (1:Int)) with
  | true => rfl
  | false =>
  cases decide (c.Nodes > (7:Int)) with
  | true => rfl
  | false =>
  cases decide ((c.Cuts.length : Int) ≥ (8:Int)) with
  | true => rfl
  | false =>
  cases b with
  | false => rfl
  | true =>
  cases decide (c.Frame < (64:Int)) with
  | true => rfl
  | false =>
  cases decide (c.Frame > (4096:Int)) with
  | true => rfl
  | false =>
  cases decide (c.Depth < (1:Int)) with
  | true => rfl
  | false =>
  cases decide (c.Depth > (65536:Int)) with
  | true => rfl
  | false =>
  cases decide (c.Quota < (1:Int)) with
  | true => rfl
  | false =>
  cases decide (c.Quota > (268435456:Int)) with
  | true => rfl
  | false =>
  cases decide (c.Wide < (0:Int)) with
  | true => rfl
  | false =>
  cases decide (c.Wide > (256:Int)) with
  | true => rfl
  | false =>
  cases decide (c.Beat < (1:Int)) with
  | true => rfl
  | false =>
  cases decide (c.Elect ≤ c.Beat) with
  | true => rfl
  | false =>
  cases decide (c.Elect > (1000:Int)) with
  | true => rfl
  | false => rfl
/-! ### Small configs -/
def smC (us : List Nat) (n : Int) (cuts : List Nat) : api_Config := { Up := up us, Nodes := n, Cuts := cuts, Frame := 128, Depth := 512, Quota := 1048576, Wide := 8, Beat := 2, Elect := 4 }
theorem small_eq {k : Int} (hk : 0 ≤ k ∧ k < 256) : ∃ us n cuts, ref04_Small k = some (smC us n cuts) ∧ w64 us ∧ 1 ≤ us.length ∧ us.length ≤ 16 ∧ label_New (up us) = some (some (latF us), 0) ∧ (1 ≤ n ∧ n ≤ 3) ∧ (cuts = [] ∨ cuts = [0]) := by
  obtain ⟨us1, h1, hw1, l1, m1, n1⟩ := known hk
  obtain ⟨us0, h0, hw0, l0, m0, n0⟩ := known (k := 0) (by decide)
  have fin : ∀ us : List Nat, w64 us → 1 ≤ us.length → us.length ≤ 16 → label_New (up us) = some (some (latF us), 0) → ∃ n cuts, ref04_Small_j0 k (up us) = some (smC us n cuts) ∧ (1 ≤ n ∧ n ≤ 3) ∧ (cuts = [] ∨ cuts = [0]) := fun us hw hl hm hn => by
    have hd : 0 ≤ Int.tdiv k 5 ∧ Int.tdiv k 5 < 256 := by
      rw [Int.tdiv_eq_ediv_of_nonneg hk.1]; omega
    have hw8 : IntKind.u8.wrap (Int.tdiv k 5) = Int.tdiv k 5 := by rw [wrap_u8_eq]; omega
    have hwi : IntKind.i64.wrap (Int.tdiv k 5) = Int.tdiv k 5 := by rw [wrap_i64] <;> omega
    have hm3 : 0 ≤ Int.tmod (Int.tdiv k 5) 3 ∧ Int.tmod (Int.tdiv k 5) 3 < 3 := by
      rw [Int.tmod_eq_emod_of_nonneg hd.1]; omega
    have hwn : IntKind.i64.wrap ((1:Int) + Int.tmod (Int.tdiv k 5) 3) = 1 + Int.tmod (Int.tdiv k 5) 3 := by rw [wrap_i64] <;> omega
    simp only [ref04_Small_j0, hw8, hwi, hwn]
    cases (Int.tmod (IntKind.u8.wrap (Int.tdiv k 16)) 2 == 1) with
    | true => exact ⟨_, [0], rfl, by omega, .inr rfl⟩
    | false => exact ⟨_, [], rfl, by omega, .inl rfl⟩
  simp only [ref04_Small, h1, h0, Option.bind_some]
  cases (Int.tmod k 5 == 4) with
  | true =>
    obtain ⟨n, cuts, g1, g2, g3⟩ := fin us0 hw0 l0 m0 n0
    exact ⟨us0, n, cuts, by rw [cond_true, Option.bind_some, g1], hw0, l0, m0, n0, g2, g3⟩
  | false =>
    obtain ⟨n, cuts, g1, g2, g3⟩ := fin us1 hw1 l1 m1 n1
    exact ⟨us1, n, cuts, by rw [cond_false, Option.bind_some, g1], hw1, l1, m1, n1, g2, g3⟩
def plS (us : List Nat) (n : Int) (cuts : List Nat) : config_Plan := { C := smC us n cuts, L := some (latF us) }
theorem new_small {us : List Nat} {n : Int} {cuts : List Nat} (hn : 1 ≤ n ∧ n ≤ 3) (hl : cuts.length ≤ 7) (hnew : label_New (up us) = some (some (latF us), 0)) {b : Bool} (hb : number_Rising cuts = some b) :
    config_New (smC us n cuts) = some (bif b then (some (plS us n cuts), 0) else (none, 1)) := by
  rw [new_c _ hb]
  have e : okC (smC us n cuts) b = b := by
    have e1 : decide (n < 1) = false := decide_eq_false (by omega)
    have e2 : decide (n > 7) = false := decide_eq_false (by omega)
    have e3 : decide ((cuts.length : Int) ≥ 8) = false := decide_eq_false (by omega)
    show (!decide (n < 1) && (!decide (n > 7) && (!decide ((cuts.length : Int) ≥ 8) && (b && true)))) = b
    rw [e1, e2, e3]
    cases b <;> rfl
  rw [e]
  cases b with
  | false => rfl
  | true => rw [cond_true, cond_true, show (smC us n cuts).Up = up us from rfl, hnew]; rfl
theorem isF0 : isF 0 := by show (0:Nat) < _; decide
section
variable {us : List Nat} {n : Int} {cuts : List Nat}
theorem l0_eq : config_Plan_L0 (some (plS us n cuts)) = some (us.length : Int) := by
  show ((label_Lattice_Len (some (latF us))).bind fun t => some t) = _
  rw [len_eqL]; rfl
theorem shards_eq (hl : cuts.length ≤ 7) : config_Plan_Shards (some (plS us n cuts)) = some ((cuts.length + 1 : Nat) : Int) := by
  show some (IntKind.i64.wrap ((cuts.length : Int) + 1)) = _
  rw [wrap_succ (show cuts.length ≤ 4294967295 by omega)]
theorem mul_w {a b : Nat} (ha : a ≤ 16) (hb : b ≤ 8) : IntKind.i64.wrap ((a : Int) * (b : Int)) = ((a * b : Nat) : Int) := by
  have := Nat.mul_le_mul ha hb
  rw [show (a : Int) * (b : Int) = ((a * b : Nat) : Int) from by push_cast; rfl, wrap_i64] <;> omega
theorem lanes_eq (hl : cuts.length ≤ 7) (hu : us.length ≤ 16) : config_Plan_Lanes (some (plS us n cuts)) = some ((us.length * (cuts.length + 1) + 1 : Nat) : Int) := by
  have := Nat.mul_le_mul hu (show cuts.length + 1 ≤ 8 by omega)
  simp only [config_Plan_Lanes, l0_eq, shards_eq hl, Option.bind_some, mul_w hu (show cuts.length + 1 ≤ 8 by omega), wrap_succ (show us.length * (cuts.length + 1) ≤ 4294967295 by omega)]
theorem rules_eq (hl : cuts.length ≤ 7) (hu : us.length ≤ 16) : config_Plan_Rules (some (plS us n cuts)) = some ((us.length * (cuts.length + 1) : Nat) : Int) := by
  have := Nat.mul_le_mul hu (show cuts.length + 1 ≤ 8 by omega)
  have w : IntKind.i64.wrap (((us.length * (cuts.length + 1) + 1 : Nat) : Int) - (1:Int)) = ((us.length * (cuts.length + 1) : Nat) : Int) := by rw [wrap_i64] <;> omega
  simp only [config_Plan_Rules, lanes_eq hl hu, Option.bind_some, w]
theorem bottom_eq (h1 : 1 ≤ us.length) (hn : us.length ≤ 16) : label_Lattice_Bottom (some (latF us)) = some (((srt us)[0]'(by rw [srt_len hn]; omega) : Nat) : Int) := by
  show ((geto (up (srt us)) ((0 : Nat) : Int)).bind fun x => some x) = _
  rw [get_srt (by rw [srt_len hn]; omega)]; rfl
end
theorem cg_awake : law04_awake = some true := by
  have e0 : ref03_Lattices 0 = some (up [3, 2]) := by decide
  have es : ref04_Small 0 = some (smC [3, 2] 1 []) := by
    simp only [ref04_Small, e0, Option.bind_some]; rfl
  have hnew := new_known (us := [3, 2]) (by decide +kernel) (by decide +kernel) (by decide +kernel) (by decide) (by decide)
  obtain ⟨b, h1, h2⟩ := rising_n (l := [0]) (by decide) (fun x hx => by rw [List.mem_singleton.1 hx]; exact isF0)
  have hb : b = true := h2.2 (List.pairwise_singleton _ _)
  subst hb
  have hn := new_small (us := [3, 2]) (n := 1) (cuts := [0]) (by decide) (by decide) hnew h1
  rw [cond_true] at hn
  have hl := lanes_eq (us := [3, 2]) (n := 1) (cuts := [0]) (by decide) (by decide)
  have hr := rules_eq (us := [3, 2]) (n := 1) (cuts := [0]) (by decide) (by decide)
  have hs := shards_eq (us := [3, 2]) (n := 1) (cuts := [0]) (by decide)
  have h0 := l0_eq (us := [3, 2]) (n := 1) (cuts := [0])
  have e : config_New { Up := (smC [3, 2] 1 []).Up, Nodes := (smC [3, 2] 1 []).Nodes, Cuts := [(0:Nat)], Frame := (smC [3, 2] 1 []).Frame, Depth := (smC [3, 2] 1 []).Depth, Quota := (smC [3, 2] 1 []).Quota, Wide := (smC [3, 2] 1 []).Wide, Beat := (smC [3, 2] 1 []).Beat, Elect := (smC [3, 2] 1 []).Elect } = some (some (plS [3, 2] 1 [0]), 0) := hn
  simp only [law04_awake, es, Option.bind_some, e, hl, config_Plan_Lane, h0, hs, hr, config_Plan_Label]
  decide
end Go.Proofs.Ytkjkbfaaigmmcaa
