/- The store of versions tells what the document's list tells; plainly. -/
import Derived.Test.YtbdnbohbmgmonaaMvccJunkMvB
set_option linter.unusedVariables false
set_option linter.unusedSimpArgs false
set_option maxRecDepth 100000
namespace Go.Proofs.Ytbdnbohbmgmonaa
open Go Go.V
theorem join_inl {S R : Type} (x : S) (f : S → Option R) : joinO (some (Sum.inl x)) f = f x := rfl
structure Ats (m : List ref11_Version) (A : List Nat) : Prop where
  rise : Rise fRank A
  f : ∀ a ∈ A, isF a
  mem : ∀ r, (∃ a ∈ A, fRank a = r) ↔ ∃ y ∈ m, fRank y.At = r
  len : A.length ≤ m.length
theorem size_eq {l : List mvcc_row} (hn : (flatV l).length ≤ 1000000) (hl : l.length ≤ 1000000) : mvcc_Store_Size (some { rows := l }) = some (((flatV l).length : Nat) : Int) := by
  have h := loop_range (body := mvcc_Store_Size_l0 { rows := l }) (fun i => ((i : Int), (((flatV (l.take i)).length : Nat) : Int))) l.length (((flatV l).length : Nat) : Int) (fun i hi => by
    have hs : (flatV (l.take (i + 1))).length = (flatV (l.take i)).length + l[i].l.length := by
      rw [List.take_succ_eq_append_getElem hi]
      unfold flatV
      rw [List.flatMap_append, List.length_append]
      simp
    have hb : (flatV (l.take i)).length + l[i].l.length ≤ 1000000 := by
      rw [← hs]
      have h9 : flatV l = flatV (l.take (i + 1)) ++ flatV (l.drop (i + 1)) := by
        unfold flatV
        rw [← List.flatMap_append, List.take_append_drop]
      rw [h9, List.length_append] at hn
      omega
    simp only [mvcc_Store_Size_l0, lt_t hi, cond_true, geto_lt hi, Option.bind_some, wrap_succ (show i ≤ 4294967295 by omega), hs]
    rw [wrap_add (by omega)]) (by simp [mvcc_Store_Size_l0, inrO])
  simpa [mvcc_Store_Size, flatV] using h
/-! ### The statements' own -/
def verG (x : law11_Ver) : Prop := isU8 x.At ∧ isF x.X ∧ isU8 x.E ∧ isU8 x.I ∧ U8s x.V
theorem at_eq {x : law11_Ver} (g : verG x) : ∃ a, law11_at x = some a ∧ isF a := by
  obtain ⟨⟨h0, h1⟩, h2, _⟩ := g
  unfold law11_at
  by_cases h : Int.tmod x.At 6 < 4
  · have ht : decide (Int.tmod x.At 6 < 4) = true := by simpa using h
    rw [ht, cond_true]
    rw [Int.tmod_eq_emod_of_nonneg h0] at h ⊢
    have h3 : x.At % 6 = 0 ∨ x.At % 6 = 1 ∨ x.At % 6 = 2 ∨ x.At % 6 = 3 := by omega
    rcases h3 with h3 | h3 | h3 | h3 <;> rw [h3]
    · exact ⟨0, rfl, by unfold isF; omega⟩
    · exact ⟨4607182418800017408, rfl, by unfold isF; omega⟩
    · exact ⟨13830554455654793216, rfl, by unfold isF; omega⟩
    · exact ⟨4602678819172646912, rfl, by unfold isF; omega⟩
  · have ht : decide (Int.tmod x.At 6 < 4) = false := by simpa using h
    rw [ht, cond_false]
    exact ⟨x.X, rfl, h2⟩
def xOf (a : Nat) (x : law11_Ver) : ref11_Version := { At := a, Epoch := IntKind.u64.wrap (Int.tmod x.E 8), Index := IntKind.u64.wrap (Int.tmod x.I 5), Del := x.Del, Val := x.V }
theorem xOf_good {x : law11_Ver} (g : verG x) {a : Nat} (ha : isF a) (hv : x.V.length ≤ 100) : xG (xOf a x) := by
  obtain ⟨_, _, ⟨e0, e1⟩, ⟨i0, i1⟩, hu⟩ := g
  refine ⟨ha, ?_, by show x.V.length ≤ _; omega, hu⟩
  unfold vG ver xOf
  dsimp only
  rw [wrap_u64_eq, wrap_u64_eq, Int.tmod_eq_emod_of_nonneg e0, Int.tmod_eq_emod_of_nonneg i0]
  omega
theorem inv_nil : Inv 0 [] [] := ⟨rise_nil, fun x h => (by cases h), fun x h => (by cases h), List.Perm.refl _, fun x h => (by cases h), fun x h => (by cases h), by simp, by simp⟩
theorem Inv.up {n k : Nat} {l : List mvcc_row} {m : List ref11_Version} (h : Inv n l m) (hk : n ≤ k) : Inv k l m := ⟨h.rise, h.ne, h.vr, h.pm, h.xg, h.cl, h.nd, Nat.le_trans h.mlen hk⟩
theorem fill_eq {a : List law11_Ver} (ha : ∀ x ∈ a, verG x) : ∃ s m ok, law11_fill a = some (s, m, ok) ∧ (ok = true → Inv 60 s.rows m) := by
  unfold law11_fill
  simp only [mvcc_New, Option.bind_some]
  by_cases hl : ((a.length : Int)) > 60
  · have : decide (((a.length : Nat) : Int) > (60:Int)) = true := by simpa using hl
    rw [this, cond_true]
    exact ⟨_, _, _, rfl, fun h => by cases h⟩
  · have : decide (((a.length : Nat) : Int) > (60:Int)) = false := by simpa using hl
    rw [this, cond_false]
    obtain ⟨r, h1, h2⟩ := loop_inv (body := law11_fill_l1 a) (Inv := fun s => ∃ i : Nat, s.2.2 = (i : Int) ∧ i ≤ a.length ∧ Inv i s.1.rows s.2.1) (m := fun s => (a.length - s.2.2).toNat)
      (Q := fun r => match r with | .inl s => Inv 60 s.1.rows s.2 | .inr t => t.2.2 = false) (fun s hs => by
        obtain ⟨s, m, z⟩ := s
        obtain ⟨i, rfl, hi, hI⟩ := hs
        dsimp only at hI
        by_cases hil : i < a.length
        · have g := ha _ (List.getElem_mem hil)
          by_cases hv : a[i].V.length ≤ 100
          · left
            have hd : decide (((a[i].V.length : Nat) : Int) > (100:Int)) = false := by simp; omega
            obtain ⟨x, hx, hF⟩ := at_eq g
            have gx := xOf_good g hF hv
            obtain ⟨p1, m', p2, p3⟩ := inv_put hI (by omega) gx
            have p1' : mvcc_Store_Put (some s) x (ver (xOf x a[i])) = _ := p1
            simp only [law11_fill_l1, lt_t hil, cond_true, geto_lt hil, Option.bind_some, hd, cond_false, hx, law11_fill_j2]
            rw [show ({ Epoch := (IntKind.u64.wrap (Int.tmod a[i].E (8:Int))), Index := (IntKind.u64.wrap (Int.tmod a[i].I (5:Int))), Del := a[i].Del, Val := a[i].V } : mvcc_Version) = ver (xOf x a[i]) from rfl, p1', Option.bind_some]
            dsimp only
            rw [show ({ At := x, Epoch := (IntKind.u64.wrap (Int.tmod a[i].E (8:Int))), Index := (IntKind.u64.wrap (Int.tmod a[i].I (5:Int))), Del := a[i].Del, Val := a[i].V } : ref11_Version) = xOf x a[i] from rfl, p2, Option.bind_some, wrap_succ (show i ≤ 4294967295 by omega)]
            exact ⟨_, rfl, ⟨i + 1, rfl, by omega, p3⟩, by dsimp only; omega⟩
          · right
            have hd : decide (((a[i].V.length : Nat) : Int) > (100:Int)) = true := by simp; omega
            simp only [law11_fill_l1, lt_t hil, cond_true, geto_lt hil, Option.bind_some, hd, inrO, Option.map_some]
            exact ⟨_, rfl, rfl⟩
        · right
          have e1 : i = a.length := by omega
          subst e1
          refine ⟨Sum.inl (s, m), by simp [law11_fill_l1, inrO], ?_⟩
          exact hI.up (by omega)) (s := (({ rows := [] } : mvcc_Store), ([] : List ref11_Version), (0:Int))) ⟨0, rfl, Nat.zero_le _, inv_nil⟩
    rw [h1]
    rcases r with ⟨s, m⟩ | ⟨s, m, ok⟩
    · exact ⟨s, m, true, rfl, fun _ => h2⟩
    · exact ⟨s, m, ok, rfl, fun h => by rw [show ok = false from h2] at h; cases h⟩
theorem get_is {n : Nat} {l : List mvcc_row} {m : List ref11_Version} (h : Inv n l m) (hn : n ≤ 10000) {a : Nat} (ha : isF a) {e : Int} {o : Option mvcc_Version} (ho : isTop (Lm (fRank a) m) e o) : mvcc_Store_Get (some { rows := l }) a e = some (gotOf o) := by
  obtain ⟨p, h1, h2, _⟩ := got_same h hn ha e
  rw [h2, top_one (rowV_rise h.rise h.vr _) (row_perm h _) h1 ho]
theorem mv_awake : law11_awake = some true := by
  have gx1 : xG { At := 4607182418800017408, Epoch := 2, Index := 0, Del := false, Val := [97] } := ⟨by unfold isF; decide, by unfold vG ver; decide, by decide, by intro y hy; simp at hy; subst hy; exact ⟨by decide, by decide⟩⟩
  have gx2 : xG { At := 4607182418800017408, Epoch := 3, Index := 0, Del := true, Val := [] } := ⟨by unfold isF; decide, by unfold vG ver; decide, by decide, by intro y hy; cases hy⟩
  obtain ⟨p1, m1, q1, i1⟩ := inv_put inv_nil (by omega) gx1
  obtain ⟨p2, m2, q2, i2⟩ := inv_put i1 (by omega) gx2
  have e1 : m1 = [{ At := 4607182418800017408, Epoch := 2, Index := 0, Del := false, Val := [97] }] := by
    have := refput_eq (m := []) (fun y h => by cases h) gx1.1 (by simp) (fun y h => by cases h) gx1.2.1
    rw [q1] at this
    exact some_inj this
  subst e1
  have e2 : m2 = [{ At := 4607182418800017408, Epoch := 2, Index := 0, Del := false, Val := [97] }, { At := 4607182418800017408, Epoch := 3, Index := 0, Del := true, Val := [] }] := by
    have := refput_eq (fun y hy => (i1.xg y hy).1) gx2.1 (by simp) (fun y hy => (i1.xg y hy).2.1) gx2.2.1
    rw [q2] at this
    have := some_inj this
    rw [this]
    simp [notK, ky, tagV, ver, vk, clx]
  subst e2
  have hF : isF 4607182418800017408 := by unfold isF; omega
  have g1 := get_is i2 (by omega) hF (e := 2) (o := some { Epoch := 2, Index := 0, Del := false, Val := [97] }) (by simp [isTop, Lm, ver, vk])
  have g2 := get_is i2 (by omega) hF (e := 3) (o := some { Epoch := 3, Index := 0, Del := true, Val := [] }) (by simp [isTop, Lm, ver, vk])
  have hz := size_eq (l := putS (putS [] (fRank 4607182418800017408) (clr (ver { At := 4607182418800017408, Epoch := 2, Index := 0, Del := false, Val := [97] }))) (fRank 4607182418800017408) (clr (ver { At := 4607182418800017408, Epoch := 3, Index := 0, Del := true, Val := [] }))) (Nat.le_trans (Nat.le_of_eq i2.size) (by decide)) (Nat.le_trans i2.good.len (by decide))
  rw [show (flatV _).length = 2 from i2.size] at hz
  simp only [law11_awake, mvcc_New, Option.bind_some]
  rw [show ({ Epoch := (2:Int), Index := (0:Int), Del := false, Val := [(97:Int)] } : mvcc_Version) = ver { At := 4607182418800017408, Epoch := 2, Index := 0, Del := false, Val := [97] } from rfl, p1, Option.bind_some]
  dsimp only
  rw [show ({ Epoch := (3:Int), Index := (0:Int), Del := true, Val := [] } : mvcc_Version) = ver { At := 4607182418800017408, Epoch := 3, Index := 0, Del := true, Val := [] } from rfl, p2, Option.bind_some]
  dsimp only
  rw [g1, Option.bind_some]
  have hs : sEq (toStr (gotOf (some { Epoch := 2, Index := 0, Del := false, Val := [97] })).Val) (ByteArray.mk #[97]) = true := by decide +kernel
  rw [hs, cond_true, g2, Option.bind_some, hz]
  rfl
end Go.Proofs.Ytbdnbohbmgmonaa
