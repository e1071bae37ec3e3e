/- Of all that is held no two meet: the plain law. -/
import Derived.Test.YtbdhhmnncknhhaaLocksApartLkG
set_option linter.unusedVariables false
set_option linter.unusedSimpArgs false
set_option maxRecDepth 100000
namespace Go.Proofs.Ytbdhhmnncknhhaa
open Go Go.V
theorem tk_inl {R : Type} (x : locks_Table) (f : locks_Table → Option R) : joinO (some (Sum.inl x)) f = f x := rfl
theorem locksApart_plain {a0 : List api_Hold} (o0 : a0.length ≤ maxLen ∧ ∀ x ∈ a0, ok_api_Hold x) : law12_LocksApart a0 = some true := by
  unfold law12_LocksApart
  simp only [lk_awake, Option.bind_some, Bool.not_true, cond_false]
  cases h0 : decide ((a0.length : Int) > (30:Int)) with
  | true => rfl
  | false =>
  have h0 := of_decide_eq_false h0
  simp only [cond_false, locks_New, Option.bind_some]
  have h := loop_inv (body := law12_LocksApart_l1 a0) (fun s => ∃ (i : Nat), s.2 = (i : Int) ∧ i ≤ a0.length ∧ tabG s.1.l ∧ s.1.l.length ≤ i ∧ ∀ x ∈ s.1.l, ∀ y ∈ s.1.l, kid x ≠ kid y → mtB x y = false) (fun s => (a0.length - s.2).toNat)
    (fun r => r = Sum.inr true ∨ ∃ l, r = Sum.inl { l := l } ∧ tabG l ∧ l.length ≤ 30 ∧ ∀ x ∈ l, ∀ y ∈ l, kid x ≠ kid y → mtB x y = false) ?_ (s := (({ l := [] } : locks_Table), (0:Int))) ⟨0, rfl, Nat.zero_le _, tab_nil, Nat.le_refl _, fun x hx => by cases hx⟩
  · obtain ⟨r, h1, h2⟩ := h
    rw [h1]
    rcases h2 with rfl | ⟨l, rfl, hG, hl, hap⟩
    · rfl
    rw [tk_inl]
    have hml : (l.map (·.ID)).length = l.length := List.length_map _
    simp only [law12_LocksApart_j0, all_eq hG.2.1, Option.bind_some]
    have h3 := loop_any (body := law12_LocksApart_l2 (l.map (·.ID)) { l := l }) l (fun _ => false) false true (fun i hi => by
      have hi' : i < (l.map (·.ID)).length := by rw [hml]; exact hi
      have e0 : (l.map (·.ID))[i] = l[i].ID := List.getElem_map _
      have g := hG.2.2 _ (List.getElem_mem hi)
      have e1 : rlook kid (idk l[i].ID) l = some l[i] := (look_some hG.1).2 ⟨List.getElem_mem hi, rfl⟩
      simp only [law12_LocksApart_l2, lt_t hi', cond_true, geto_lt hi', e0, Option.bind_some, get_eq hG g.id, e1]
      have h4 := loop_any (body := law12_LocksApart_l3 (i : Int) (l.map (·.ID)) { l := l } (l[i], true)) (l.take i) (fun _ => false) (Sum.inr false) (Sum.inl ((i + 1 : Nat) : Int)) (fun j hj => by
        have hji : j < i := by rw [List.length_take] at hj; omega
        have hj2 : j < l.length := by omega
        have hj' : j < (l.map (·.ID)).length := by omega
        have e2 : (l.map (·.ID))[j] = l[j].ID := List.getElem_map _
        have gj := hG.2.2 _ (List.getElem_mem hj2)
        have e3 : rlook kid (idk l[j].ID) l = some l[j] := (look_some hG.1).2 ⟨List.getElem_mem hj2, rfl⟩
        have e4 : mtB l[i] l[j] = false := hap _ (List.getElem_mem hi) _ (List.getElem_mem hj2) (by have := hG.1.lt hj2 hi hji; omega)
        simp only [law12_LocksApart_l3, lt_t hji, cond_true, geto_lt hj', e2, Option.bind_some, get_eq hG gj.id, e3, meet_req g gj, e4, cond_false, wrap_succ (show j ≤ 4294967295 by omega)]) (by
        have e5 : (l.take i).length = i := by rw [List.length_take]; omega
        rw [e5]
        simp only [law12_LocksApart_l3, lt_f, cond_false, wrap_succ (show i ≤ 4294967295 by omega)]; rfl)
      rw [h4]
      have e : (l.take i).any (fun _ => false) = false := List.any_eq_false.2 fun _ _ => by simp
      rw [e, cond_false]) (by
      have e5 : (l.length : Int) = ((l.map (·.ID)).length : Int) := by rw [hml]
      rw [e5]
      simp only [law12_LocksApart_l2, lt_f, cond_false]; rfl)
    rw [h3]
    have e : l.any (fun _ => false) = false := List.any_eq_false.2 fun _ _ => by simp
    rw [e]; rfl
  rintro ⟨⟨l⟩, i'⟩ ⟨i, hi, hi2, hG, hl, hap⟩
  dsimp only at hi hG hl hap
  subst hi
  by_cases hlt : i < a0.length
  · simp only [law12_LocksApart_l1, lt_t hlt, cond_true, geto_lt hlt, Option.bind_some, short_eq]
    by_cases s0 : a0[i].Gets.length ≤ 32 ∧ a0[i].Scans.length ≤ 32 ∧ a0[i].Puts.length ≤ 32 ∧ a0[i].Data.length ≤ 257
    rotate_left
    · rw [tr_f s0]; exact .inr ⟨_, rfl, .inl rfl⟩
    left
    have gx := holdG_of (o0.2 _ (List.getElem_mem hlt)) s0
    rw [tr_t s0]
    simp only [Bool.not_true, cond_false, take_eq hG (by omega) gx, Option.bind_some, wrap_succ (show i ≤ 4294967295 by omega)]
    cases hb : l.any (bars a0[i]) with
    | true =>
      simp only [if_true]
      exact ⟨_, rfl, ⟨i + 1, rfl, by omega, hG, by dsimp only; omega, hap⟩, by dsimp only; omega⟩
    | false =>
      simp only [Bool.false_eq_true, if_false]
      have hl2 := putL_len hG.1 a0[i]
      refine ⟨_, rfl, ⟨i + 1, rfl, by omega, tabG_put hG gx (by omega), by dsimp only; omega, ?_⟩, by dsimp only; omega⟩
      have hno : ∀ y ∈ l, kid y ≠ kid a0[i] → mtB y a0[i] = false := fun y hy hne => by
        have := List.any_eq_false.1 hb y hy
        simp only [bars, Bool.and_eq_true, Bool.not_eq_true', beq_eq_false_iff_ne, not_and, Bool.not_eq_true] at this
        exact this hne
      intro x hx y hy hne
      rcases (putL_mem hG.1 a0[i] x).1 hx with rfl | ⟨hx, hxn⟩ <;> rcases (putL_mem hG.1 a0[i] y).1 hy with rfl | ⟨hy, hyn⟩
      · exact absurd rfl hne
      · rw [mtB_comm]; exact hno y hy hyn
      · exact hno x hx hxn
      · exact hap x hx y hy hne
  · have e : i = a0.length := by omega
    subst e
    exact .inr ⟨Sum.inl { l := l }, by simp only [law12_LocksApart_l1, lt_f, cond_false]; rfl, .inr ⟨l, rfl, hG, by omega, hap⟩⟩
end Go.Proofs.Ytbdhhmnncknhhaa
