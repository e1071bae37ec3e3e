/- Any bytes, or a table's of which one is another one: the plain law. -/
import Derived.Test.YtbdhhmnncknhhaaLocksJunkLkD
set_option linter.unusedVariables false
set_option linter.unusedSimpArgs false
set_option maxRecDepth 100000
namespace Go.Proofs.Ytbdhhmnncknhhaa
open Go Go.V
theorem junk_loop {t : ref12_Tape} (ht : tapeOK t) : ∃ l, loopO (law12_LocksJunk_l2) (t, ({ l := [] } : locks_Table), (0:Int)) = some ({ l := l } : locks_Table) ∧ tabG l ∧ l.length ≤ 6 := by
  have h := loop_inv (S := ref12_Tape × locks_Table × Int) (body := law12_LocksJunk_l2) (fun s => tapeOK s.1 ∧ ∃ i : Nat, s.2.2 = (i : Int) ∧ i ≤ 6 ∧ tabG s.2.1.l ∧ s.2.1.l.length ≤ i) (fun s => (6 - s.2.2).toNat) (fun r => tabG r.l ∧ r.l.length ≤ 6) ?_ (s := (t, ({ l := [] } : locks_Table), (0:Int))) ⟨ht, 0, rfl, by omega, tab_nil, Nat.le_refl _⟩
  · obtain ⟨r, h1, h2⟩ := h
    exact ⟨r.l, h1, h2⟩
  rintro ⟨t, ⟨l⟩, i'⟩ ⟨ht, i, hi, hi5, hG, hl⟩
  dsimp only at ht hi hG hl
  subst hi
  by_cases hlt : i < 6
  · left
    obtain ⟨x, t1, e1, hx, ht1⟩ := TP.hold t ht
    have ed : decide ((i : Int) < (6:Int)) = true := decide_eq_true (by omega)
    simp only [law12_LocksJunk_l2, ed, cond_true, e1, Option.bind_some, take_eq hG (by omega) hx.1, wrap_succ (show i ≤ 4294967295 by omega)]
    cases hb : l.any (bars x) with
    | true =>
      simp only [if_true]
      exact ⟨_, rfl, ⟨ht1, i + 1, rfl, by omega, hG, by dsimp only; omega⟩, by dsimp only; omega⟩
    | false =>
      have hl2 := putL_len hG.1 x
      simp only [Bool.false_eq_true, if_false]
      exact ⟨_, rfl, ⟨ht1, i + 1, rfl, by omega, tabG_put hG hx.1 (by omega), by dsimp only; omega⟩, by dsimp only; omega⟩
  · right
    have ed : decide ((i : Int) < (6:Int)) = false := decide_eq_false (by omega)
    exact ⟨{ l := l }, by simp only [law12_LocksJunk_l2, ed, cond_false, inrO, Option.map_some], hG, by dsimp only; omega⟩
theorem locksJunk_plain {a0 a1 : List Int} {a2 a3 : Int} (o0 : a0.length ≤ maxLen ∧ ∀ x ∈ a0, (Lit.int .u8 x).wf = true) (o1 : a1.length ≤ maxLen ∧ ∀ x ∈ a1, (Lit.int .u8 x).wf = true) (o2 : (Lit.int .u16 a2).wf = true) (_ : (Lit.int .u8 a3).wf = true) : law12_LocksJunk a0 a1 a2 a3 = some true := by
  unfold law12_LocksJunk
  simp only [lk_awake, Option.bind_some, Bool.not_true, cond_false]
  cases h0 : decide ((a0.length : Int) > (1000:Int)) with
  | true => rfl
  | false =>
  cases h1 : decide ((a1.length : Int) > (300:Int)) with
  | true => rfl
  | false =>
  have l0 : a0.length ≤ 1000 := by have := of_decide_eq_false h0; omega
  have l1 : a1.length ≤ 300 := by have := of_decide_eq_false h1; omega
  have u0 : U8s a0 := fun y hy => lit_u8.1 (o0.2 y hy)
  obtain ⟨d, e, hd, hde⟩ := dec_anyL (p := a0) (by omega) u0
  simp only [cond_false, hd, Option.bind_some]
  have hj : law12_LocksJunk_j0 a1 a2 a3 () = some true := by
    obtain ⟨l, hl, hG, hl6⟩ := junk_loop (t := { L := a1, I := 0 }) (tape_of o1 (by omega))
    have hlen := tabB_len hG.2.2
    have henc := encode_eqL hG.2.2 (by omega)
    have hpos : 0 < (tabB l).length := by simp only [tabB, List.length_append, leB_length]; omega
    obtain ⟨q0, q1⟩ := lit_u16.1 o2
    have w : IntKind.i64.wrap a2 = a2 := by rw [wrap_i64] <;> omega
    have g1 : (!(((tabB l).length : Int) == (0:Int))) = true := by simp; intro h; rw [h] at hpos; simp at hpos
    obtain ⟨n, rfl⟩ := Int.eq_ofNat_of_zero_le q0
    have hm : Int.tmod (n : Int) ((tabB l).length : Int) = ((n % (tabB l).length : Nat) : Int) := by rw [Int.tmod_eq_emod_of_nonneg (Int.natCast_nonneg _)]; exact (Int.natCast_emod _ _).symm
    have hi : n % (tabB l).length < (tabB l).length := Nat.mod_lt _ hpos
    have hu2 : U8s ((tabB l).set (n % (tabB l).length) (bXor .u8 ((tabB l)[n % (tabB l).length]) a3)) := set_u8 (tabB_u8 hG.2.2) _ (bXor_u8 _ _)
    obtain ⟨d2, e2, hd2, hde2⟩ := dec_anyL (by rw [List.length_set]; omega) hu2
    simp only [law12_LocksJunk_j0, locks_New, Option.bind_some, hl, law12_LocksJunk_j1, henc, gd_true g1, w, hm, geto_lt hi, Int.toNat_natCast, hd2]
    rcases hde2 with ⟨k1, _, k3⟩ | ⟨k1, k2⟩
    · subst k1
      simp only [k3, Option.bind_some, toStr_refl]
      rfl
    · subst k1; subst k2; rfl
  rcases hde with ⟨k1, _, k3⟩ | ⟨k1, k2⟩
  · subst k1
    simp only [k3, Option.bind_some, toStr_refl]
    exact hj
  · subst k1; subst k2
    exact hj
end Go.Proofs.Ytbdhhmnncknhhaa
