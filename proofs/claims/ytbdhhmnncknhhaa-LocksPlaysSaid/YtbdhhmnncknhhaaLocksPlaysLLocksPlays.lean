/- Any holds that come, and go: the plain law. -/
import Derived.Test.YtbdhhmnncknhhaaLocksPlaysLkG
set_option linter.unusedVariables false
set_option linter.unusedSimpArgs false
set_option maxRecDepth 100000
namespace Go.Proofs.Ytbdhhmnncknhhaa
open Go Go.V
theorem locksPlays_plain {a0 : List Int} (o0 : a0.length ≤ maxLen ∧ ∀ x ∈ a0, (Lit.int .u8 x).wf = true) : law12_LocksPlays a0 = some true := by
  unfold law12_LocksPlays
  simp only [lk_awake, Option.bind_some, Bool.not_true, cond_false]
  cases h0 : decide ((a0.length : Int) > (500:Int)) with
  | true => rfl
  | false =>
  have h0 := of_decide_eq_false h0
  simp only [cond_false, locks_New, Option.bind_some]
  refine loop_true (fun s => ∃ (i : Nat), s.2.2.2 = (i : Int) ∧ i ≤ 25 ∧ tapeOK s.1 ∧ tabG s.2.1.l ∧ s.2.1.l.length ≤ i ∧ s.2.1.l.Perm s.2.2.1) (fun s => (25 - s.2.2.2).toNat) ?_ ⟨0, rfl, by omega, tape_of o0 (by omega), tab_nil, Nat.le_refl _, List.Perm.refl _⟩
  rintro ⟨t, ⟨l⟩, m, i'⟩ ⟨i, hi, hi2, ht, hG, hl, hp⟩
  dsimp only at hi ht hG hl hp
  subst hi
  have hm : m.length = l.length := hp.length_eq.symm
  have hg : ∀ x ∈ m, holdG x := fun x hx => hG.2.2 x (hp.mem_iff.2 hx)
  by_cases hlt : i < 25
  · left
    obtain ⟨n, t1, e1, hn, ht1⟩ := TP.next 3 (by decide) (by decide) t ht
    have ed : decide ((i : Int) < (25:Int)) = true := decide_eq_true (by omega)
    simp only [law12_LocksPlays_l0, ed, cond_true, e1, Option.bind_some]
    cases hz : n == (0:Int) with
    | true =>
      obtain ⟨x, t2, e2, hx, ht2⟩ := TP.of_ t1 ht1
      have hG2 := tabG_del hG (idk x)
      have hp2 : (delL kid (idk x) l).Perm (m.filter fun y => kid y != idk x) := by rw [← filter_rest hG.1]; exact hp.filter _
      have hl2 := delL_len hG.1 (idk x)
      obtain ⟨w, e3, e4⟩ : ∃ w, ref11_Held m x = some w ∧ w.2 = hit kid (idk x) l := ⟨_, held_eq (by omega) hg hx, by
        rw [find_perm hG.1 hp, hit_look]
        cases rlook kid (idk x) l <;> rfl⟩
      simp only [cond_true, e2, e3, rdrop_eq (by omega) hg hx, drop_eq hG hx, Option.bind_some, e4, BEq.rfl, Bool.not_true, cond_false]
      show ∃ s', law12_LocksPlays_j1 _ (t2, _, _) = _ ∧ _
      simp only [law12_LocksPlays_j1, told_eq hG2 hp2, Option.bind_some, Bool.not_true, cond_false, wrap_succ (show i ≤ 4294967295 by omega)]
      exact ⟨_, rfl, ⟨i + 1, rfl, by omega, ht2, hG2, by dsimp only; omega, hp2⟩, by dsimp only; omega⟩
    | false =>
      obtain ⟨x, t2, e2, hx, ht2⟩ := TP.hold t1 ht1
      have gx := hx.1
      simp only [cond_false, e2, Option.bind_some, rtake_eq (by omega) hg gx, take_eq hG (by omega) gx, any_perm hp (bars x)]
      cases hb : m.any (bars x) with
      | true =>
        simp only [if_true]
        show ∃ s', law12_LocksPlays_j1 _ (t2, _, _) = _ ∧ _
        simp only [law12_LocksPlays_j1, told_eq hG hp, Option.bind_some, Bool.not_true, cond_false, wrap_succ (show i ≤ 4294967295 by omega)]
        exact ⟨_, rfl, ⟨i + 1, rfl, by omega, ht2, hG, by dsimp only; omega, hp⟩, by dsimp only; omega⟩
      | false =>
        have hG2 := tabG_put hG gx (by omega)
        have hp2 := rel_put hG hp x
        have hl2 := putL_len hG.1 x
        simp only [Bool.false_eq_true, if_false]
        show ∃ s', law12_LocksPlays_j1 _ (t2, _, _) = _ ∧ _
        simp only [law12_LocksPlays_j1, told_eq hG2 hp2, Option.bind_some, Bool.not_true, cond_false, wrap_succ (show i ≤ 4294967295 by omega)]
        exact ⟨_, rfl, ⟨i + 1, rfl, by omega, ht2, hG2, by dsimp only; omega, hp2⟩, by dsimp only; omega⟩
  · right
    have ed : decide ((i : Int) < (25:Int)) = false := decide_eq_false (by omega)
    simp only [law12_LocksPlays_l0, ed, cond_false, inrO, Option.map_some]
end Go.Proofs.Ytbdhhmnncknhhaa
