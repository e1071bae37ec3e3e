/- Any answers to any numbers of any sessions: the plain law. -/
import Derived.Test.YtkfifhkjdibadaaSessionPlaysSesR
import Derived.Test.YtkfifhkjdibadaaSessionPlaysA
set_option linter.unusedVariables false
set_option linter.unusedSimpArgs false
set_option maxRecDepth 100000
namespace Go.Proofs.Ytkfifhkjdibadaa
open Go Go.V
theorem rel_nil : Rel [] [] := List.Perm.refl _
theorem sessionPlays_plain {a0 : List Int} (o0 : a0.length ≤ maxLen ∧ ∀ x ∈ a0, (Lit.int .u8 x).wf = true) : law14_SessionPlays a0 = some true := by
  unfold law14_SessionPlays
  simp only [ses_awake, Option.bind_some, Bool.not_true, cond_false]
  cases h0 : decide ((a0.length : Int) > (500:Int)) with
  | true => rfl
  | false =>
  have h0 := of_decide_eq_false h0
  simp only [cond_false, session_New, Option.bind_some]
  refine loop_true (fun s => ∃ (i : Nat), s.2.2.2 = (i : Int) ∧ i ≤ 25 ∧ tapeOK s.1 ∧ Rise s.2.1.l ∧ s.2.1.l.length ≤ i ∧ Rel s.2.1.l s.2.2.1 ∧ AllR s.2.1.l) (fun s => (25 - s.2.2.2).toNat) ?_ ⟨0, rfl, by omega, ⟨Int.le_refl _, by dsimp only; omega, fun x hx => lit_u8.1 (o0.2 x hx)⟩, rise_nil, Nat.le_refl _, rel_nil, fun x hx => by cases hx⟩
  rintro ⟨t, ⟨l⟩, m, i'⟩ ⟨i, hi, hi2, ht, hr, hl, hrel, hall⟩
  dsimp only at hi ht hr hl hrel hall
  subst hi
  by_cases hlt : i < 25
  · left
    obtain ⟨s, t1, e1, hs, ht1⟩ := TP.next 6 (by decide) (by decide) t ht
    obtain ⟨q, t2, e2, hq, ht2⟩ := TP.next 7 (by decide) (by decide) t1 ht1
    obtain ⟨r, t3, e3, hrp, ht3⟩ := TP.reply t2 ht2
    have es : IntKind.u64.wrap s = s := by rw [wrap_u64] <;> omega
    have eq : IntKind.u64.wrap q = q := by rw [wrap_u64] <;> omega
    have ei : IntKind.i64.wrap ((i : Int) + (1:Int)) = ((i + 1 : Nat) : Int) := wrap_add (a := i) (b := 1) (by omega)
    have ed : decide ((i : Int) < (25:Int)) = true := decide_eq_true (by omega)
    have hok := okR_of hrp.1
    simp only [law14_SessionPlays_l0, ed, cond_true, e1, e2, e3, Option.bind_some, es, eq, tell_eq hr hrel (by omega) s q r, put_eq hr (by omega) s q r (by omega), ei]
    by_cases h1 : q = 0
    · simp only [if_pos h1]
      have : ((1:Int) != (1:Int)) = false := rfl
      simp only [this, cond_false, told_eq hr hrel (by omega) hall, Option.bind_some, Bool.not_true]
      exact ⟨_, rfl, ⟨i + 1, rfl, by omega, ht3, hr, by dsimp only; omega, hrel, hall⟩, by dsimp only; omega⟩
    · simp only [if_neg h1]
      by_cases h2 : seqOf s l ≥ q
      · simp only [if_pos h2]
        have : ((10:Int) != (10:Int)) = false := rfl
        simp only [this, cond_false, told_eq hr hrel (by omega) hall, Option.bind_some, Bool.not_true]
        exact ⟨_, rfl, ⟨i + 1, rfl, by omega, ht3, hr, by dsimp only; omega, hrel, hall⟩, by dsimp only; omega⟩
      · simp only [if_neg h2]
        have : ((0:Int) != (0:Int)) = false := rfl
        have hr2 := putL_rise hr (rw_ s q r)
        have hl2 := putL_len hr (rw_ s q r)
        have hrel2 := rel_put hr hrel (rw_ s q r)
        have hall2 := allR_put hr hall (x := rw_ s q r) ⟨hok, by show 0 < q; omega⟩
        rw [show (rw_ s q r).session = s from rfl] at hrel2
        simp only [this, cond_false, told_eq hr2 hrel2 (by omega) hall2, Option.bind_some, Bool.not_true]
        exact ⟨_, rfl, ⟨i + 1, rfl, by omega, ht3, hr2, by dsimp only; omega, hrel2, hall2⟩, by dsimp only; omega⟩
  · right
    have ed : decide ((i : Int) < (25:Int)) = false := decide_eq_false (by omega)
    simp only [law14_SessionPlays_l0, ed, cond_false, inrO, Option.map_some]
end Go.Proofs.Ytkfifhkjdibadaa
