/- The document's answer on books: the list of all lines. -/
import Derived.Test.YtcnldkkdommmdaaPolicyBytesB
import Derived.Test.YtcnldkkdommmdaaPolicyBytesTapeF
set_option linter.unusedVariables false
set_option linter.unusedSimpArgs false
set_option maxRecDepth 100000
namespace Go.Proofs.Ytcnldkkdommmdaa
open Go Go.V
theorem ofRule_ok {t : ref12_Tape} (h : tapeOK t) : ∃ r t', ref13_OfRule t = some (r, t') ∧ okRule r ∧ tapeOK t' ∧ t'.L = t.L ∧ 0 ≤ r.ID := by
  obtain ⟨v1, t1, a1, b1, c1, d1, e1⟩ := next_ok h (n := 3) (by decide) (by decide)
  obtain ⟨v2, t2, a2, b2, c2, d2, e2⟩ := next_ok d1 (n := 4) (by decide) (by decide)
  obtain ⟨v3, t3, a3, b3, c3, d3, e3⟩ := next_ok d2 (n := 4) (by decide) (by decide)
  obtain ⟨f4, t4, a4, b4, d4, e4⟩ := float_ok d3
  obtain ⟨f5, t5, a5, b5, d5, e5⟩ := float_ok d4
  obtain ⟨v6, t6, a6, b6, c6, d6, e6⟩ := next_ok d5 (n := 2) (by decide) (by decide)
  obtain ⟨v7, t7, a7, b7, c7, d7, e7⟩ := next_ok d6 (n := 3) (by decide) (by decide)
  refine ⟨{ ID := IntKind.u64.wrap v1, From := v2, To := v3, Lo := f4, Hi := f5, Authority := IntKind.u64.wrap v6, Quota := v7 }, t7, by simp only [ref13_OfRule, a1, a2, a3, a4, a5, a6, a7, Option.bind_some], ⟨b4, b5⟩, d7, by rw [e7, e6, e5, e4, e3, e2, e1], ?_⟩
  show 0 ≤ IntKind.u64.wrap v1
  rw [wrap_u64_eq]; omega
def conv (x : policy_line) : ref11_Line := { R := x.r, From := x.from_, To := x.to_ }
theorem conv_revd (id e : Int) (he : 0 ≤ e) (x : policy_line) : conv (revd id e x) = bif hit id x then { R := x.r, From := x.from_, To := bif e == 0 then 1 else e } else conv x := by
  unfold revd
  cases hit id x with
  | false => rfl
  | true =>
    simp only [cond_true, conv, ref11_Line.mk.injEq, true_and]
    by_cases h : e = 0
    · subst h; rfl
    · have h1 : ¬ (1:Int) > e := by omega
      have h2 : (e == 0) = false := by simpa using h
      rw [if_neg h1, h2]; rfl
/-- The document's revocation. -/
theorem refRevoke_eq (l : List policy_line) (id e : Int) (he : 0 ≤ e) (hl : l.length ≤ 1000000) : ref11_Revoke (l.map conv) id e = some ((l.map (revd id e)).map conv, l.any (hit id)) := by
  have key : ∀ z : Int, (bif e == 0 then (1:Int) else e) = z → ref11_Revoke_j0 (l.map conv) id z = some ((l.map (revd id e)).map conv, l.any (hit id)) := by
    intro z hz
    unfold ref11_Revoke_j0
    have h := loop_range (body := ref11_Revoke_l2 (l.map conv) id z) (fun i => ((i : Int), ((l.take i).map (revd id e)).map conv, (l.take i).any (hit id))) l.length (((l.map (revd id e)).map conv, l.any (hit id))) ?_ ?_
    · have h0 : loopO (ref11_Revoke_l2 (l.map conv) id z) ((0:Int), [], false) = some ((l.map (revd id e)).map conv, l.any (hit id)) := by simpa using h
      rw [h0]; rfl
    · intro i hi
      have e1 : decide ((i : Int) < ((l.map conv).length : Int)) = true := by simpa using hi
      have e2 : IntKind.i64.wrap ((i : Int) + 1) = ((i + 1 : Nat) : Int) := by rw [wrap_i64] <;> omega
      have hg : geto (l.map conv) (i : Int) = some (conv l[i]) := by rw [geto_lt (by simpa using hi)]; simp
      have hroom : ∀ y : ref11_Line, room (((l.take i).map (revd id e)).map conv) [y] = true := fun y => room_le (by simp; omega)
      have hset : ∀ y : ref11_Line, y = conv (revd id e l[i]) → ((l.take i).map (revd id e)).map conv ++ [y] = ((l.take (i + 1)).map (revd id e)).map conv := by
        intro y hy
        rw [List.take_succ_eq_append_getElem hi, List.map_append, List.map_append, hy]
        rfl
      simp only [ref11_Revoke_l2, e1, cond_true, hg, Option.bind_some, any_take _ _ _ hi]
      cases hh : hit id l[i] with
      | true =>
        have hh2 := hh
        simp only [hit, Bool.and_eq_true] at hh2
        have c1 : ((conv l[i]).R.ID == id) = true := hh2.1
        have c2 : ((conv l[i]).To == 0) = true := hh2.2
        simp only [c1, c2, cond_true, Option.bind_some, ref11_Revoke_j3, e2, gd_true (hroom _), Bool.or_true]
        rw [hset]
        rw [conv_revd _ _ he, hh, ← hz]; rfl
      | false =>
        have hx : conv (revd id e l[i]) = conv l[i] := by rw [conv_revd _ _ he, hh]; rfl
        have hs := hset (conv l[i]) hx.symm
        have fin : ref11_Revoke_j3 (((l.take i).map (revd id e)).map conv) (conv l[i]) (i : Int) ((l.take i).any (hit id), (conv l[i]).To) = some (Sum.inl (((i + 1 : Nat) : Int), ((l.take (i + 1)).map (revd id e)).map conv, (l.take i).any (hit id))) := by
          simp only [ref11_Revoke_j3, e2, gd_true (hroom _)]
          rw [← hs]
        rw [Bool.or_false]
        cases h1 : ((conv l[i]).R.ID == id) with
        | false => exact fin
        | true =>
          have h2 : ((conv l[i]).To == 0) = false := by
            have : hit id l[i] = (((conv l[i]).R.ID == id) && ((conv l[i]).To == 0)) := rfl
            rw [this, h1, Bool.true_and] at hh
            exact hh
          rw [h2]; exact fin
    · have e1 : decide ((l.length : Int) < ((l.map conv).length : Int)) = false := by simp
      simp only [ref11_Revoke_l2, e1, cond_false, inrO, Option.map_some, List.take_length]
  unfold ref11_Revoke
  cases h : (e == 0) with
  | true => exact key 1 (by rw [h]; rfl)
  | false => exact key e (by rw [h]; rfl)
/-- The document's look-up: the last one that holds. -/
theorem refAt_eq (l : List policy_line) (id e : Int) (hl : l.length ≤ 1000000) : ref11_At (l.map conv) id e = some (told (lastOf (tells id e) l)) := by
  unfold ref11_At
  let st : Nat → Int × Int × Int × Nat × Nat × Int × Int × Int × Bool := fun i =>
    let r := told (lastOf (tells id e) (l.take i))
    (r.1.ID, r.1.From, r.1.To, r.1.Lo, r.1.Hi, r.1.Authority, r.1.Quota, (i : Int), r.2)
  let fin : Int × Int × Int × Nat × Nat × Int × Int × Bool :=
    let r := told (lastOf (tells id e) l)
    (r.1.ID, r.1.From, r.1.To, r.1.Lo, r.1.Hi, r.1.Authority, r.1.Quota, r.2)
  have h := loop_range (body := ref11_At_l1 (l.map conv) id e) st l.length fin ?_ ?_
  · have h0 : loopO (ref11_At_l1 (l.map conv) id e) ((0:Int), (0:Int), (0:Int), (0:Nat), (0:Nat), (0:Int), (0:Int), (0:Int), false) = some fin := h
    rw [h0]; rfl
  · intro i hi
    have e1 : decide ((i : Int) < ((l.map conv).length : Int)) = true := by simpa using hi
    have e2 : IntKind.i64.wrap ((i : Int) + 1) = ((i + 1 : Nat) : Int) := by rw [wrap_i64] <;> omega
    have hg : geto (l.map conv) (i : Int) = some (conv l[i]) := by rw [geto_lt (by simpa using hi)]; simp
    simp only [st, ref11_At_l1, e1, cond_true, hg, Option.bind_some, e2, List.take_succ_eq_append_getElem hi, lastOf_snoc]
    have ht : tells id e l[i] = (((conv l[i]).R.ID == id) && (decide ((conv l[i]).From ≤ e) && (((conv l[i]).To == 0) || decide (e < (conv l[i]).To)))) := rfl
    rw [ht]
    cases ((conv l[i]).R.ID == id) <;> cases decide ((conv l[i]).From ≤ e) <;> cases ((conv l[i]).To == 0) <;> cases decide (e < (conv l[i]).To) <;> rfl
  · have e1 : decide ((l.length : Int) < ((l.map conv).length : Int)) = false := by simp
    simp only [st, fin, ref11_At_l1, e1, cond_false, inrO, Option.map_some, List.take_length]
theorem told_ok {l : List policy_line} (h : ∀ x ∈ l, okRule x.r) (p : policy_line → Bool) : okRule (told (lastOf p l)).1 := by
  cases hf : lastOf p l with
  | none => exact ⟨by decide, by decide⟩
  | some x => exact h x (List.mem_reverse.1 (List.mem_of_find?_eq_some hf))
theorem told_eq (b : policy_Book) (hl : b.l.length ≤ 1000000) (h : ∀ x ∈ b.l, okRule x.r) : law15_told (some b) (b.l.map conv) = some true := by
  unfold law15_told
  simp only [policy_Book_Len, Option.bind_some, List.length_map, bne_self_eq_false, cond_false]
  refine loop_true (fun z : Int => 0 ≤ z ∧ z ≤ 4) (fun z => (4 - z).toNat) ?_ (by decide)
  rintro z ⟨h0, h1⟩
  unfold law15_told_l0
  cases hz : decide (z < 4) with
  | false => right; rfl
  | true =>
    have hz' : z < 4 := by simpa using hz
    left
    refine ⟨z + 1, ?_, ⟨by omega, by omega⟩, by omega⟩
    have hk : ∃ r, loopO (law15_told_l1 (some b) z (b.l.map conv)) (0:Int) = some r ∧ r = Sum.inl (z + 1) := by
      refine loop_inv (body := law15_told_l1 (some b) z (b.l.map conv)) (fun y : Int => 0 ≤ y ∧ y ≤ 9) (fun y => (9 - y).toNat) (fun r => r = Sum.inl (z + 1)) ?_ (by decide)
      rintro y ⟨g0, g1⟩
      unfold law15_told_l1
      cases hy : decide (y < 9) with
      | false =>
        right
        have : IntKind.u64.wrap (z + 1) = z + 1 := by rw [wrap_u64] <;> omega
        exact ⟨_, by rw [this]; rfl, rfl⟩
      | true =>
        have hy' : y < 9 := by simpa using hy
        left
        have hw : IntKind.u64.wrap (y + 1) = y + 1 := by rw [wrap_u64] <;> omega
        have hk := told_ok h (tells z y)
        refine ⟨y + 1, ?_, ⟨by omega, by omega⟩, by omega⟩
        simp only [cond_true, at_eq b z y hl, refAt_eq b.l z y hl, Option.bind_some, sameRule_eq hk hk, sameR_refl, hw]
        cases (told (lastOf (tells z y) b.l)).2 <;> rfl
    obtain ⟨r, e1, e2⟩ := hk
    rw [cond_true, e1, e2]
end Go.Proofs.Ytcnldkkdommmdaa
