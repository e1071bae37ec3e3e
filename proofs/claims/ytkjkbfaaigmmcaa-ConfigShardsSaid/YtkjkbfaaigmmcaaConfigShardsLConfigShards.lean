/- Of which shard any number is; which shards any span touches: the plain law. -/
import Derived.Test.YtkjkbfaaigmmcaaConfigShardsCgA
set_option linter.unusedVariables false
set_option linter.unusedSimpArgs false
set_option maxRecDepth 100000
namespace Go.Proofs.Ytkjkbfaaigmmcaa
open Go Go.V
/-- Not behind a number. -/
def nb (x y : Nat) : Bool := !decide (fRank x < fRank y)
def shB (l : List Nat) (x : Nat) : Nat := lb (nb x) l
theorem nb_ahd {l : List Nat} (hr : Rise fRank l) (x : Nat) : Ahd (nb x) l := fun a b ha hb hab h => by
  have h1 := hr.lt ha hb hab
  have h2 : ¬ fRank x < fRank l[b] := by simpa [nb] using h
  have : ¬ fRank x < fRank l[a] := by omega
  simpa [nb] using this
theorem shard_n {l : List Nat} (hl : l.length ≤ 7) (hf : ∀ y ∈ l, isF y) (hr : Rise fRank l) {x : Nat} (hx : isF x) : number_Shard l x = some ((shB l x : Nat) : Int) := by
  have hp := nb_ahd hr x
  have h := loop_inv (body := number_Shard_l0 l x) (fun s => ∃ i j : Nat, s = ((i : Int), (j : Int)) ∧ i ≤ j ∧ j ≤ l.length ∧ (∀ a (h : a < l.length), a < i → nb x l[a] = true) ∧ (∀ a (h : a < l.length), j ≤ a → nb x l[a] = false)) (fun s => (s.2 - s.1).toNat) (fun r => r = ((lb (nb x) l : Nat) : Int)) (fun s hs => by
    obtain ⟨i, j, rfl, g1, g2, g3, g4⟩ := hs
    by_cases hij : i < j
    · have hk : (i + j) / 2 < l.length := by omega
      have hstep : number_Shard_l0 l x ((i : Int), (j : Int)) = some (.inl (bif nb x l[(i + j) / 2] then ((((i + j) / 2 + 1 : Nat) : Int), (j : Int)) else ((i : Int), (((i + j) / 2 : Nat) : Int)))) := by
        simp only [number_Shard_l0, lt_t hij, cond_true, mid_eq (show i + j ≤ 4294967296 by omega), geto_lt hk, Option.bind_some, less_eq hx (hf _ (List.getElem_mem hk)), wrap_succ (show (i + j) / 2 ≤ 4294967295 by omega)]
        show (bif nb x l[(i + j) / 2] then _ else _) = _
        cases nb x l[(i + j) / 2] <;> rfl
      refine .inl ⟨_, hstep, ?_, ?_⟩
      · cases hb : nb x l[(i + j) / 2] with
        | true =>
          refine ⟨(i + j) / 2 + 1, j, rfl, by omega, g2, fun a ha hak => ?_, g4⟩
          by_cases e : a = (i + j) / 2
          · subst e; exact hb
          · exact hp a _ ha hk (by omega) hb
        | false =>
          refine ⟨i, (i + j) / 2, rfl, by omega, by omega, g3, fun a ha hak => ?_⟩
          by_cases e : a = (i + j) / 2
          · subst e; exact hb
          · cases hc : nb x l[a] with
            | false => rfl
            | true => rw [hp _ a hk ha (by omega) hc] at hb; cases hb
      · cases hb : nb x l[(i + j) / 2] with
        | true => simp only [cond_true]; omega
        | false => simp only [cond_false]; omega
    · have hij' : i = j := by omega
      subst hij'
      refine .inr ⟨(i : Int), by simp only [number_Shard_l0, lt_f, cond_false]; rfl, ?_⟩
      rw [show lb (nb x) l = i from takeWhile_len g2 g3 fun h => g4 i h (Nat.le_refl _)]) (s := ((0:Int), (l.length : Int))) ⟨0, l.length, rfl, by omega, by omega, fun a _ h => by omega, fun a h1 h2 => by omega⟩
  obtain ⟨r, h1, h2⟩ := h
  rw [number_Shard, h1, h2]; rfl
theorem shard_r {l : List Nat} (hl : l.length ≤ 7) (hf : ∀ y ∈ l, isF y) (hr : Rise fRank l) {x : Nat} (hx : isF x) : ref01_Shard l x = some ((shB l x : Nat) : Int) := by
  have hp := nb_ahd hr x
  have hfl : ∀ i, i ≤ l.length → ((l.take i).filter (nb x)).length = min i (shB l x) := fun i => by
    induction i with
    | zero => intro _; simp
    | succ i ih =>
      intro hi
      rw [List.take_succ_eq_append_getElem (by omega), List.filter_append, List.length_append, ih (by omega)]
      by_cases h : i < shB l x
      · have : nb x l[i] = true := lb_lt (p := nb x) (l := l) h
        simp [this]; omega
      · have hle := lb_le (nb x) l
        have : nb x l[i] = false := by
          cases hc : nb x l[i] with
          | false => rfl
          | true =>
            have hs : shB l x < l.length := by omega
            have h0 : nb x l[shB l x] = false := lb_at (p := nb x) (l := l) hs
            rcases Nat.eq_or_lt_of_le (show shB l x ≤ i by omega) with e | e
            · simp only [e] at h0; rw [h0] at hc; cases hc
            · rw [hp _ i hs (by omega) e hc] at h0; cases h0
        simp [this]; omega
  have h := loop_range (body := ref01_Shard_l0 l x) (fun i => ((((l.take i).filter (nb x)).length : Int), (i : Int))) l.length ((shB l x : Nat) : Int) (fun i hi => by
    have hc : ((l.take i).filter (nb x)).length ≤ i := by
      have := List.length_filter_le (nb x) (l.take i)
      rw [List.length_take] at this; omega
    simp only [ref01_Shard_l0, lt_t hi, cond_true, geto_lt hi, Option.bind_some, ahead_eq hx (hf _ (List.getElem_mem hi)), wrap_succ (show i ≤ 4294967295 by omega), wrap_succ (show ((l.take i).filter (nb x)).length ≤ 4294967295 by omega)]
    rw [List.take_succ_eq_append_getElem hi, List.filter_append, List.length_append]
    show (bif nb x l[i] then _ else _) = _
    cases hb : nb x l[i] <;> simp [hb]) (by
    simp only [ref01_Shard_l0, lt_f, cond_false]
    have := hfl l.length (Nat.le_refl _)
    have hle := lb_le (nb x) l
    rw [this]
    show some (Sum.inr _) = _
    congr 3
    unfold shB; omega)
  exact h
/-- The bits from one shard to another one, below a place. -/
def sp (f t : Nat) : Nat → Int
  | 0 => 0
  | i + 1 => bif decide (f ≤ i) && decide (i ≤ t) then bOr .u64 (sp f t i) (iShl .u64 (1:Int) (i : Int)) else sp f t i
theorem sp_low {f t : Nat} : ∀ i, i ≤ f → sp f t i = 0
  | 0, _ => rfl
  | i + 1, h => by
    have : decide (f ≤ i) = false := decide_eq_false (by omega)
    rw [sp, this]; exact sp_low i (by omega)
theorem sp_high {f t : Nat} : ∀ i, t + 1 ≤ i → sp f t i = sp f t (t + 1)
  | 0, h => by omega
  | i + 1, h => by
    rcases Nat.eq_or_lt_of_le h with e | e
    · rw [e]
    · have : decide (i ≤ t) = false := decide_eq_false (by omega)
      rw [sp, this, Bool.and_false]; exact sp_high i (by omega)
theorem sp_none {f t : Nat} (h : t < f) : ∀ i, sp f t i = 0
  | 0 => rfl
  | i + 1 => by
    have : (decide (f ≤ i) && decide (i ≤ t)) = false := by
      rw [Bool.and_eq_false_iff]
      by_cases g : f ≤ i
      · exact .inr (decide_eq_false (by omega))
      · exact .inl (decide_eq_false g)
    rw [sp, this]; exact sp_none h i
theorem configShards_plain {a0 : List Nat} {a1 a2 : Nat} (o0 : a0.length ≤ maxLen ∧ ∀ x ∈ a0, (Lit.float .f64 x).wf = true) (o1 : (Lit.float .f64 a1).wf = true) (o2 : (Lit.float .f64 a2).wf = true) : law04_ConfigShards a0 a1 a2 = some true := by
  unfold law04_ConfigShards
  simp only [cg_awake, Option.bind_some, Bool.not_true, cond_false]
  cases h0 : decide ((a0.length : Int) > (7:Int)) with
  | true => rfl
  | false =>
  have h0 := of_decide_eq_false h0
  have hl : a0.length ≤ 7 := by omega
  have hf : ∀ x ∈ a0, isF x := fun x hx => f64_lt (o0.2 x hx)
  have hx : isF a1 := f64_lt o1
  have hy : isF a2 := f64_lt o2
  obtain ⟨b, g1, g2, g3⟩ := rising_both (show a0.length ≤ 1000 by omega) hf
  simp only [cond_false, g2, Option.bind_some]
  cases b with
  | false => rfl
  | true =>
  have hr := g3.1 rfl
  obtain ⟨us, n, cuts, h1, hw, l1, l2, hnew, hn, _⟩ := small_eq (k := 0) (by decide)
  have hp := new_small (cuts := a0) hn hl hnew g1
  rw [cond_true] at hp
  have hp' : config_New { Up := (smC us n cuts).Up, Nodes := (smC us n cuts).Nodes, Cuts := a0, Frame := (smC us n cuts).Frame, Depth := (smC us n cuts).Depth, Quota := (smC us n cuts).Quota, Wide := (smC us n cuts).Wide, Beat := (smC us n cuts).Beat, Elect := (smC us n cuts).Elect } = some (some (plS us n a0), 0) := hp
  have hsh : ∀ z, isF z → config_Plan_Shard (some (plS us n a0)) z = some ((shB a0 z : Nat) : Int) := fun z hz => by
    show ((number_Shard a0 z).bind fun t => some t) = _
    rw [shard_n hl hf hr hz]; rfl
  have hle : ∀ z, shB a0 z ≤ a0.length := fun z => lb_le _ _
  have hspan : config_Plan_Span (some (plS us n a0)) { Label := 0, From := a1, To := a2 } = some (bif !decide (fRank a2 < fRank a1) then sp (shB a0 a1) (shB a0 a2) (a0.length + 1) else 0) := by
    simp only [config_Plan_Span, less_eq hy hx, Option.bind_some]
    cases decide (fRank a2 < fRank a1) with
    | true => rfl
    | false =>
      simp only [Bool.not_false, cond_true, hsh a1 hx, Option.bind_some]
      have hbody : ∀ (m : Int) (i : Nat), i ≤ 8 → config_Plan_Span_l0 (some (plS us n a0)) { Label := 0, From := a1, To := a2 } (m, (i : Int)) = bif decide (i ≤ shB a0 a2) then some (.inl (bOr .u64 m (iShl .u64 (1:Int) (i : Int)), ((i + 1 : Nat) : Int))) else some (.inr m) := fun m i hi => by
        have d : decide ((i : Int) ≤ ((shB a0 a2 : Nat) : Int)) = decide (i ≤ shB a0 a2) := by rw [decide_eq_decide]; omega
        simp only [config_Plan_Span_l0, hsh a2 hy, Option.bind_some, d, gd_true (gdn i), gd_t, wrap_succ (show i ≤ 4294967295 by omega)]
        cases decide (i ≤ shB a0 a2) <;> rfl
      by_cases hft : shB a0 a1 ≤ shB a0 a2
      · have h := loop_range (body := config_Plan_Span_l0 (some (plS us n a0)) { Label := 0, From := a1, To := a2 }) (fun k => (sp (shB a0 a1) (shB a0 a2) (shB a0 a1 + k), ((shB a0 a1 + k : Nat) : Int))) (shB a0 a2 + 1 - shB a0 a1) (sp (shB a0 a1) (shB a0 a2) (a0.length + 1)) (fun k hk => by
          have := hle a2
          rw [hbody _ _ (by omega), decide_eq_true (show shB a0 a1 + k ≤ shB a0 a2 by omega), cond_true, ← Nat.add_assoc]
          congr 3
          rw [sp, decide_eq_true (show shB a0 a1 ≤ shB a0 a1 + k by omega), decide_eq_true (show shB a0 a1 + k ≤ shB a0 a2 by omega)]; rfl) (by
          have := hle a2
          rw [hbody _ _ (by omega), decide_eq_false (show ¬ shB a0 a1 + (shB a0 a2 + 1 - shB a0 a1) ≤ shB a0 a2 by omega), cond_false, show shB a0 a1 + (shB a0 a2 + 1 - shB a0 a1) = shB a0 a2 + 1 by omega, sp_high (a0.length + 1) (by omega)])
        rw [show sp (shB a0 a1) (shB a0 a2) (shB a0 a1 + 0) = 0 from sp_low _ (Nat.le_refl _)] at h
        exact h
      · have := hle a1
        rw [loopO_eq, hbody _ _ (by omega), decide_eq_false hft, cond_false, sp_none (by omega)]; rfl
  have hrefb : ∀ i : Nat, i ≤ 8 → ∀ m : Int, ref04_Span_l0 { Up := (smC us n cuts).Up, Nodes := (smC us n cuts).Nodes, Cuts := a0, Frame := (smC us n cuts).Frame, Depth := (smC us n cuts).Depth, Quota := (smC us n cuts).Quota, Wide := (smC us n cuts).Wide, Beat := (smC us n cuts).Beat, Elect := (smC us n cuts).Elect } { Label := 0, From := a1, To := a2 } (m, (i : Int)) = bif decide (i ≤ a0.length) then some (.inl (bif (!decide (fRank a2 < fRank a1) && (decide (shB a0 a1 ≤ i) && decide (i ≤ shB a0 a2))) then bOr .u64 m (iShl .u64 (1:Int) (i : Int)) else m, ((i + 1 : Nat) : Int))) else some (.inr m) := fun i hi m => by
    have d1 : decide ((i : Int) ≤ (a0.length : Int)) = decide (i ≤ a0.length) := by rw [decide_eq_decide]; omega
    have d2 : decide ((i : Int) ≥ ((shB a0 a1 : Nat) : Int)) = decide (shB a0 a1 ≤ i) := by rw [decide_eq_decide]; omega
    have d3 : decide ((i : Int) ≤ ((shB a0 a2 : Nat) : Int)) = decide (i ≤ shB a0 a2) := by rw [decide_eq_decide]; omega
    simp only [ref04_Span_l0, d1, ahead_eq hy hx, shard_r hl hf hr hx, shard_r hl hf hr hy, Option.bind_some, d2, d3, gd_true (gdn i), gd_t, wrap_succ (show i ≤ 4294967295 by omega)]
    cases decide (i ≤ a0.length) <;> cases decide (fRank a2 < fRank a1) <;> cases decide (shB a0 a1 ≤ i) <;> cases decide (i ≤ shB a0 a2) <;> rfl
  have href : ref04_Span { Up := (smC us n cuts).Up, Nodes := (smC us n cuts).Nodes, Cuts := a0, Frame := (smC us n cuts).Frame, Depth := (smC us n cuts).Depth, Quota := (smC us n cuts).Quota, Wide := (smC us n cuts).Wide, Beat := (smC us n cuts).Beat, Elect := (smC us n cuts).Elect } { Label := 0, From := a1, To := a2 } = some (bif !decide (fRank a2 < fRank a1) then sp (shB a0 a1) (shB a0 a2) (a0.length + 1) else 0) := by
    unfold ref04_Span
    have h := loop_range (body := ref04_Span_l0 { Up := (smC us n cuts).Up, Nodes := (smC us n cuts).Nodes, Cuts := a0, Frame := (smC us n cuts).Frame, Depth := (smC us n cuts).Depth, Quota := (smC us n cuts).Quota, Wide := (smC us n cuts).Wide, Beat := (smC us n cuts).Beat, Elect := (smC us n cuts).Elect } { Label := 0, From := a1, To := a2 }) (fun i => (bif !decide (fRank a2 < fRank a1) then sp (shB a0 a1) (shB a0 a2) i else 0, (i : Int))) (a0.length + 1) (bif !decide (fRank a2 < fRank a1) then sp (shB a0 a1) (shB a0 a2) (a0.length + 1) else 0) (fun i hi => by
      rw [hrefb i (by omega), decide_eq_true (show i ≤ a0.length by omega), cond_true]
      congr 3
      rw [sp]
      cases decide (fRank a2 < fRank a1) <;> cases decide (shB a0 a1 ≤ i) <;> cases decide (i ≤ shB a0 a2) <;> rfl) (by
      rw [hrefb _ (by omega), decide_eq_false (show ¬ a0.length + 1 ≤ a0.length by omega), cond_false])
    have e : (bif !decide (fRank a2 < fRank a1) then sp (shB a0 a1) (shB a0 a2) 0 else (0:Int)) = 0 := by cases decide (fRank a2 < fRank a1) <;> rfl
    simp only [e] at h
    exact h
  simp only [Bool.not_true, cond_false, h1, Option.bind_some, hp', hsh a1 hx, shard_r hl hf hr hx, hspan, href, BEq.rfl, cond_true]
end Go.Proofs.Ytkjkbfaaigmmcaa
