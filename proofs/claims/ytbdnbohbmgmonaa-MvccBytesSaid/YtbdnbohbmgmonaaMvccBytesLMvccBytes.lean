/- A store's bytes, and back: the plain law. -/
import Derived.Test.YtbdnbohbmgmonaaMvccBytesMvE
set_option linter.unusedVariables false
set_option linter.unusedSimpArgs false
set_option maxRecDepth 100000
namespace Go.Proofs.Ytbdnbohbmgmonaa
open Go Go.V
theorem mvccBytes_plain {a0 a1 : List law11_Ver} (o0 : a0.length ≤ maxLen ∧ ∀ x ∈ a0, ok_law11_Ver x) (o1 : a1.length ≤ maxLen ∧ ∀ x ∈ a1, ok_law11_Ver x) : law11_MvccBytes a0 a1 = some true := by
  obtain ⟨s, m, ok, h1, h2⟩ := fill_eq fun x hx => verG_of (o0.2 x hx)
  simp only [law11_MvccBytes, h1, mv_awake, Option.bind_some, Bool.not_true, cond_false]
  cases ok with
  | false => rfl
  | true =>
  obtain ⟨l⟩ := s
  have hI : Inv 60 l m := h2 rfl
  simp only [Bool.not_true, cond_false]
  cases h0 : decide ((a1.length : Int) > (20:Int)) with
  | true => rfl
  | false =>
  have l0 : a1.length ≤ 20 := by have := of_decide_eq_false h0; omega
  have henc := hI.enc (by omega)
  have hdec := dec_enc hI (by omega)
  have b0 : ((0:Int) != (0:Int)) = false := rfl
  simp only [cond_false, henc, hdec, b0, Option.bind_some, toStr_refl, Bool.not_true]
  obtain ⟨r, k1, k2⟩ := loop_inv (body := law11_MvccBytes_l1 a1) (Inv := fun s => ∃ (i : Nat) (l : List mvcc_row), s.2.1 = (i : Int) ∧ i ≤ a1.length ∧ s.1 = some { rows := l } ∧ Inv (60 + i) l s.2.2) (m := fun s => (a1.length - s.2.1).toNat)
    (Q := fun r => match r with | .inl t => ∃ l, t.2 = some { rows := l } ∧ Inv 80 l t.1 | .inr t => t = true) (fun s hs => by
      obtain ⟨st, z, m⟩ := s
      obtain ⟨i, l, hz, hi, hst, hI⟩ := hs
      dsimp only at hz hst hI
      subst hz; subst hst
      by_cases hil : i < a1.length
      · have g := verG_of (o1.2 _ (List.getElem_mem hil))
        by_cases hv : a1[i].V.length ≤ 100
        · left
          have hd : decide (((a1[i].V.length : Nat) : Int) > (100:Int)) = false := by simp; omega
          obtain ⟨x, hx, hF⟩ := at_eq g
          have gx := xOf_good g hF hv
          obtain ⟨p1, m', p2, p3⟩ := inv_put hI (by omega) gx
          have p1' : mvcc_Store_Put (some { rows := l }) x (ver (xOf x a1[i])) = _ := p1
          simp only [law11_MvccBytes_l1, lt_t hil, cond_true, geto_lt hil, Option.bind_some, hd, cond_false, hx, law11_MvccBytes_j2]
          rw [show ({ Epoch := (IntKind.u64.wrap (Int.tmod a1[i].E (8:Int))), Index := (IntKind.u64.wrap (Int.tmod a1[i].I (5:Int))), Del := a1[i].Del, Val := a1[i].V } : mvcc_Version) = ver (xOf x a1[i]) from rfl, p1', Option.bind_some]
          rw [show ({ At := x, Epoch := (IntKind.u64.wrap (Int.tmod a1[i].E (8:Int))), Index := (IntKind.u64.wrap (Int.tmod a1[i].I (5:Int))), Del := a1[i].Del, Val := a1[i].V } : ref11_Version) = xOf x a1[i] from rfl, p2, Option.bind_some, wrap_succ (show i ≤ 4294967295 by omega)]
          exact ⟨_, rfl, ⟨i + 1, _, rfl, by omega, rfl, p3⟩, by dsimp only; omega⟩
        · right
          have hd : decide (((a1[i].V.length : Nat) : Int) > (100:Int)) = true := by simp; omega
          simp only [law11_MvccBytes_l1, lt_t hil, cond_true, geto_lt hil, Option.bind_some, hd, inrO, Option.map_some]
          exact ⟨_, rfl, rfl⟩
      · right
        have e1 : i = a1.length := by omega
        subst e1
        exact ⟨Sum.inl (m, some { rows := l }), by simp [law11_MvccBytes_l1, inrO], l, rfl, hI.up (by omega)⟩) (s := ((some { rows := l } : Option mvcc_Store), (0:Int), m)) ⟨0, l, rfl, Nat.zero_le _, rfl, hI⟩
  rw [k1]
  rcases r with ⟨m2, st⟩ | t
  · obtain ⟨l2, e, hI2⟩ := k2
    dsimp only at e hI2
    subst e
    rw [join_inl]
    simp only [law11_MvccBytes_j0, told_eq hI2 (show 80 ≤ 10000 by omega), Option.bind_some]
  · have : t = true := k2
    subst this
    rfl
end Go.Proofs.Ytbdnbohbmgmonaa
