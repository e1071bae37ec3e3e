/- The plain law: PolicyOne's model answers true. -/
import Derived.Test.YtcnldkkdommmdaaPolicyOneA
import Derived.Test.YtcnldkkdommmdaaPolicyOneB
import Derived.Test.YtcnldkkdommmdaaPolicyOneC
set_option linter.unusedVariables false
set_option linter.unusedSimpArgs false
set_option maxRecDepth 100000
namespace Go.Proofs.Ytcnldkkdommmdaa
open Go Go.V
theorem policyOne_plain {a0 : List api_Rule} {a1 : List Int} (o0 : a0.length ≤ maxLen ∧ ∀ x ∈ a0, ok_api_Rule x) (o1 : a1.length ≤ maxLen ∧ ∀ x ∈ a1, (Lit.int .u8 x).wf = true) : law15_PolicyOne a0 a1 = some true := by
  unfold law15_PolicyOne
  rw [awake_true]
  simp only [Option.bind_some, Bool.not_true, cond_false]
  cases hlen : decide ((a0.length : Int) > 12) with
  | true => rfl
  | false =>
    have hlen' : a0.length ≤ 12 := by simp at hlen; omega
    simp only [cond_false, policy_New, Option.bind_some]
    refine loop_true (fun s : policy_Book × Int × Int => (s.1.l.length : Int) = s.2.2 ∧ (0:Int) ≤ s.2.2 ∧ s.2.2 ≤ (a0.length : Int) ∧ (1:Int) ≤ s.2.1 ∧ s.2.1 ≤ 1 + 2 * s.2.2) (fun s => ((a0.length : Int) - s.2.2).toNat) ?_ (by simp)
    rintro ⟨b, e, i⟩ ⟨h1, h2, h3, h4, h5⟩
    simp only at h1 h2 h3 h4 h5
    unfold law15_PolicyOne_l0
    simp only
    cases hi : decide (i < (a0.length : Int)) with
    | false => right; rfl
    | true =>
      have hi' : i < a0.length := by simpa using hi
      simp only [cond_true]
      obtain ⟨n, rfl⟩ := Int.eq_ofNat_of_zero_le h2
      have hn : n < a0.length := by simpa using hi'
      -- the epoch moves on
      have hep : ∃ e', (bif decide ((n : Int) < (a1.length : Int)) then ((geto a1 n).bind fun x => some (IntKind.u64.wrap (e + IntKind.u64.wrap (Int.tmod x 3)))) else some e) = some e' ∧ 1 ≤ e' ∧ e' ≤ e + 2 := by
        cases hj : decide ((n : Int) < (a1.length : Int)) with
        | false => exact ⟨e, rfl, h4, by omega⟩
        | true =>
          have hj' : n < a1.length := by simpa using hj
          have hx := lit_u8.1 (o1.2 a1[n] (List.getElem_mem hj'))
          refine ⟨IntKind.u64.wrap (e + IntKind.u64.wrap (Int.tmod a1[n] 3)), by simp only [cond_true, geto_lt hj', Option.bind_some], ?_⟩
          have ht : Int.tmod a1[n] 3 = a1[n] % 3 := Int.tmod_eq_emod_of_nonneg hx.1
          rw [ht, wrap_u64 (n := a1[n] % 3) (by omega) (by omega), wrap_u64 (by omega) (by omega)]
          omega
      obtain ⟨e', he, h6, h7⟩ := hep
      rw [he, Option.bind_some]
      unfold law15_PolicyOne_j1
      have hok := o0.2 a0[n] (List.getElem_mem hn)
      obtain ⟨_, _, _, hlo, hhi, _, _⟩ := hok
      have hr : okRule a0[n] := ⟨f64_lt hlo, f64_lt hhi⟩
      have hbl : b.l.length ≤ 1000000 := by omega
      have hat : policy_Book_At (some { l := b.l.map (revd a0[n].ID e') ++ [{ r := a0[n], from_ := e', to_ := 0 }] }) a0[n].ID e' = some (a0[n], true) := by
        rw [at_eq _ _ _ (by simp; omega), lastOf_snoc]
        simp [tells, told]
      have hw : IntKind.i64.wrap ((n : Int) + 1) = ((n + 1 : Nat) : Int) := by rw [wrap_i64] <;> omega
      simp only [geto_lt hn, Option.bind_some, grant_eq b a0[n] e' hbl, hat, sameRule_eq hr hr, sameR_refl, Bool.not_true, cond_false, hw, inrO, Option.map_some]
      cases decide (a0[n].From < 0) <;> cases decide (a0[n].From > 255) <;> cases decide (a0[n].To < 0) <;> cases decide (a0[n].To > 255) <;> cases decide (a0[n].Quota < 0) <;> cases decide (a0[n].Quota > 65536) <;>
        first
          | (right; rfl)
          | (left; refine ⟨_, rfl, ⟨?_, ?_, ?_, h6, ?_⟩, ?_⟩
             · simp only [List.length_append, List.length_map, List.length_cons, List.length_nil]; omega
             · show (0:Int) ≤ ((n + 1 : Nat) : Int); omega
             · show ((n + 1 : Nat) : Int) ≤ (a0.length : Int); omega
             · show e' ≤ 1 + 2 * ((n + 1 : Nat) : Int); omega
             · show ((a0.length : Int) - ((n + 1 : Nat) : Int)).toNat < ((a0.length : Int) - (n : Int)).toNat; omega)
end Go.Proofs.Ytcnldkkdommmdaa
