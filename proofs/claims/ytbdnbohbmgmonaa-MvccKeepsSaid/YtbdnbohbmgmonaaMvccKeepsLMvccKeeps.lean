/- Values may be written over; a nil store has nothing: the plain law. -/
import Derived.Test.YtbdnbohbmgmonaaMvccKeepsMvO
set_option linter.unusedVariables false
set_option linter.unusedSimpArgs false
set_option maxRecDepth 100000
namespace Go.Proofs.Ytbdnbohbmgmonaa
open Go Go.V
theorem over1 (q : List Int) (hn : q.length ≤ 1000000) : loopO law11_MvccKeeps_l1 ((0:Int), q) = some () := by
  obtain ⟨u, h1, _⟩ := loop_inv (body := law11_MvccKeeps_l1) (Inv := fun s => ∃ i : Nat, s.1 = (i : Int) ∧ i ≤ q.length ∧ s.2.length = q.length) (m := fun s => (q.length - s.1).toNat) (Q := fun _ => True) (fun s hs => by
    obtain ⟨z, p⟩ := s
    obtain ⟨i, rfl, hi, hp⟩ := hs
    dsimp only at hp
    by_cases h : i < p.length
    · left
      simp only [law11_MvccKeeps_l1, lt_t h, cond_true, geto_lt h, Option.bind_some, wrap_succ (show i ≤ 4294967295 by omega)]
      exact ⟨_, rfl, ⟨i + 1, rfl, by omega, by dsimp only; rw [List.length_set]; exact hp⟩, by dsimp only; omega⟩
    · right
      have e : i = p.length := by omega
      subst e
      exact ⟨(), by simp [law11_MvccKeeps_l1, inrO], trivial⟩) (s := ((0:Int), q)) ⟨0, rfl, Nat.zero_le _, rfl⟩
  exact h1
theorem over3 (q : List Int) (hn : q.length ≤ 1000000) : loopO law11_MvccKeeps_l3 ((0:Int), q) = some () := by
  obtain ⟨u, h1, _⟩ := loop_inv (body := law11_MvccKeeps_l3) (Inv := fun s => ∃ i : Nat, s.1 = (i : Int) ∧ i ≤ q.length ∧ s.2.length = q.length) (m := fun s => (q.length - s.1).toNat) (Q := fun _ => True) (fun s hs => by
    obtain ⟨z, p⟩ := s
    obtain ⟨i, rfl, hi, hp⟩ := hs
    dsimp only at hp
    by_cases h : i < p.length
    · left
      simp only [law11_MvccKeeps_l3, lt_t h, cond_true, geto_lt h, Option.bind_some, wrap_succ (show i ≤ 4294967295 by omega)]
      exact ⟨_, rfl, ⟨i + 1, rfl, by omega, by dsimp only; rw [List.length_set]; exact hp⟩, by dsimp only; omega⟩
    · right
      have e : i = p.length := by omega
      subst e
      exact ⟨(), by simp [law11_MvccKeeps_l3, inrO], trivial⟩) (s := ((0:Int), q)) ⟨0, rfl, Nat.zero_le _, rfl⟩
  exact h1
theorem mvccKeeps_plain {a0 : List Int} {a1 : Nat} {a2 : Int} (o0 : a0.length ≤ maxLen ∧ ∀ x ∈ a0, (Lit.int .u8 x).wf = true) (o1 : (Lit.float .f64 a1).wf = true) (o2 : (Lit.int .u64 a2).wf = true) : law11_MvccKeeps a0 a1 a2 = some true := by
  unfold law11_MvccKeeps
  simp only [mv_awake, Option.bind_some, Bool.not_true, cond_false]
  cases h0 : decide ((a0.length : Int) > (100:Int)) with
  | true => rfl
  | false =>
  have h0 := of_decide_eq_false h0
  have hF : isF a1 := f64_lt o1
  have he := lit_u64.1 o2
  have gx : xG { At := a1, Epoch := a2, Index := 0, Del := false, Val := a0 } := ⟨hF, ⟨he.1, by have := he.2; show a2 < 18446744073709551616; omega, Int.le_refl 0, (by decide : (0:Int) < 18446744073709551616)⟩, by show a0.length ≤ 1000; omega, fun y hy => lit_u8.1 (o0.2 y hy)⟩
  obtain ⟨p1, m1, q1, i1⟩ := inv_put inv_nil (by omega) gx
  have e1 : m1 = [{ At := a1, Epoch := a2, Index := 0, Del := false, Val := a0 }] := by
    have := refput_eq (m := []) (fun y h => by cases h) gx.1 (by simp) (fun y h => by cases h) gx.2.1
    rw [q1] at this
    exact some_inj this
  subst e1
  have g1 := get_is i1 (by omega) hF (e := a2) (o := some { Epoch := a2, Index := 0, Del := false, Val := a0 }) (by simp [isTop, Lm, ver, vk])
  simp only [cond_false]
  rw [gd_true (room_le (by simp only [List.length_nil]; omega))]
  simp only [mvcc_New, Option.bind_some]
  rw [show ({ Epoch := a2, Index := (0:Int), Del := false, Val := a0 } : mvcc_Version) = ver { At := a1, Epoch := a2, Index := 0, Del := false, Val := a0 } from rfl, p1, Option.bind_some]
  dsimp only
  rw [over1 a0 (by omega), Option.bind_some]
  simp only [law11_MvccKeeps_j0, g1, Option.bind_some]
  rw [show gotOf (some { Epoch := a2, Index := 0, Del := false, Val := a0 }) = { Has := true, Val := a0 } from rfl]
  simp only [Bool.not_true, cond_false, toStr_refl, over3 a0 (by omega), Option.bind_some, law11_MvccKeeps_j2, mvcc_Store_Put, mvcc_Store_Trim, g1]
  rw [show gotOf (some { Epoch := a2, Index := 0, Del := false, Val := a0 }) = { Has := true, Val := a0 } from rfl]
  simp only [toStr_refl, cond_true, mvcc_Store_Get, rank_eq hF, Option.bind_some, mvcc_Store_find, Bool.not_false, mvcc_Store_Scan, mvcc_Store_Versions, mvcc_Store_Len, mvcc_Store_Size]
  rfl
end Go.Proofs.Ytbdnbohbmgmonaa
