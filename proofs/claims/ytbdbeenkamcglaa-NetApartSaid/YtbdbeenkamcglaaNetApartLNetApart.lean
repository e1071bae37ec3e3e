/- Frames of one link's lane are no other one's: the plain law. -/
import Derived.Test.YtbdbeenkamcglaaNetApartNtA
import Derived.Test.YtbdbeenkamcglaaNetApartA
set_option linter.unusedVariables false
set_option linter.unusedSimpArgs false
set_option maxRecDepth 100000
namespace Go.Proofs.Ytbdbeenkamcglaa
open Go Go.V
theorem nt_third (x : Int) : 0 ≤ IntKind.i64.wrap (Int.tmod (IntKind.u64.wrap x) (3:Int)) ∧ IntKind.i64.wrap (Int.tmod (IntKind.u64.wrap x) (3:Int)) < 3 := by
  have h : 0 ≤ IntKind.u64.wrap x := by rw [wrap_u64_eq]; omega
  rw [Int.tmod_eq_emod_of_nonneg h, wrap_i64] <;> omega
theorem netApart_plain {a0 a1 : net_Link} {a2 : List Int} (o0 : ok_net_Link a0) (o1 : ok_net_Link a1) (o2 : a2.length ≤ maxLen ∧ ∀ x ∈ a2, (Lit.int .u8 x).wf = true) : law21_NetApart a0 a1 a2 = some true := by
  unfold law21_NetApart
  simp only [nt_awake, Option.bind_some, Bool.not_true, cond_false]
  cases h0 : decide ((a2.length : Int) > (100:Int)) with
  | true => rfl
  | false =>
  have l0 : a2.length ≤ 100 := by have := of_decide_eq_false h0; omega
  obtain ⟨f1, f2⟩ := nt_third a0.From
  obtain ⟨t1, t2⟩ := nt_third a0.To
  obtain ⟨n1, n2⟩ := nt_third a0.Lane
  generalize IntKind.i64.wrap (Int.tmod (IntKind.u64.wrap a0.From) (3:Int)) = F at f1 f2
  generalize IntKind.i64.wrap (Int.tmod (IntKind.u64.wrap a0.To) (3:Int)) = T at t1 t2
  generalize IntKind.i64.wrap (Int.tmod (IntKind.u64.wrap a0.Lane) (3:Int)) = N at n1 n2
  simp only [cond_false, nt_open, Option.bind_some]
  have hl : lkB { From := F, To := T, Lane := N } = (F != T) := by
    have c1 : decide (F ≥ 0) = true := decide_eq_true f1
    have c2 : decide (F < 3) = true := decide_eq_true f2
    have c3 : decide (T ≥ 0) = true := decide_eq_true t1
    have c4 : decide (T < 3) = true := decide_eq_true t2
    have c5 : decide (N ≥ 0) = true := decide_eq_true n1
    have c6 : decide (N < 3) = true := decide_eq_true n2
    unfold lkB
    dsimp only
    rw [c1, c2, c3, c4, c5, c6]
    cases F != T <;> rfl
  have hp := nt_putE { From := F, To := T, Lane := N } (v := a2) (by omega)
  rw [hl] at hp
  rw [hp, Option.bind_some]
  by_cases hft : F = T
  · have e1 : (F != T) = false := by simpa using hft
    have e2 : (F == T) = true := by simpa using hft
    rw [e1, e2]
    show (net_Net_Len (ntN none) _).bind _ = _
    rw [nt_lenE]; rfl
  · have e1 : (F != T) = true := by simpa using hft
    rw [e1]
    have hk : lkB { From := F, To := T, Lane := N } = true := by rw [hl, e1]
    show (net_Net_Take (ntN (some ({ From := F, To := T, Lane := N }, [a2]))) a1 (0:Int)).bind _ = _
    cases hq : ((a1.From == F) && (a1.To == T) && (a1.Lane == N)) with
    | true =>
      have hq' := hq
      simp only [Bool.and_eq_true, beq_iff_eq] at hq'
      obtain ⟨⟨q1, q2⟩, q3⟩ := hq'
      obtain ⟨b1, b2, b3⟩ := a1
      dsimp only at q1 q2 q3
      subst q1; subst q2; subst q3
      have ht := nt_takeC hk (xs := [a2]) (by simp) (i := 0) (by omega) (x := a2) rfl
      have ht : net_Net_Take (ntN (some ({ From := b1, To := b2, Lane := b3 }, [a2]))) { From := b1, To := b2, Lane := b3 } (0:Int) = _ := ht
      rw [ht, Option.bind_some]
      simp
    | false =>
      rw [nt_takeN (nt_placeN (l := a1) (k := { From := F, To := T, Lane := N }) hq [a2] 0), Option.bind_some]
      have hq2 : ((F == a1.From) && (T == a1.To) && (N == a1.Lane)) = false := by
        rw [← hq]
        rw [Bool.eq_iff_iff]
        simp only [Bool.and_eq_true, beq_iff_eq]
        constructor
        · rintro ⟨⟨h1, h2⟩, h3⟩; exact ⟨⟨h1.symm, h2.symm⟩, h3.symm⟩
        · rintro ⟨⟨h1, h2⟩, h3⟩; exact ⟨⟨h1.symm, h2.symm⟩, h3.symm⟩
      dsimp only
      rw [hq2, nt_lenC, hk]
      rfl
end Go.Proofs.Ytbdbeenkamcglaa
