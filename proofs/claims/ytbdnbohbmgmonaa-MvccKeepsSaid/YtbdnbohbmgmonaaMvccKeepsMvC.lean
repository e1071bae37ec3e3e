/- The store of versions tells what the document's list tells; plainly. -/
import Derived.Test.YtbdnbohbmgmonaaMvccKeepsMvB
set_option linter.unusedVariables false
set_option linter.unusedSimpArgs false
set_option maxRecDepth 100000
namespace Go.Proofs.Ytbdnbohbmgmonaa
open Go Go.V
structure Ats (m : List ref11_Version) (A : List Nat) : Prop where
  rise : Rise fRank A
  f : ∀ a ∈ A, isF a
  mem : ∀ r, (∃ a ∈ A, fRank a = r) ↔ ∃ y ∈ m, fRank y.At = r
  len : A.length ≤ m.length
theorem size_eq {l : List mvcc_row} (hn : (flatV l).length ≤ 1000000) (hl : l.length ≤ 1000000) : mvcc_Store_Size (some { rows := l }) = some (((flatV l).length : Nat) : Int) := by
  have h := loop_range (body := mvcc_Store_Size_l0 { rows := l }) (fun i => ((i : Int), (((flatV (l.take i)).length : Nat) : Int))) l.length (((flatV l).length : Nat) : Int) (fun i hi => by
    have hs : (flatV (l.take (i + 1))).length = (flatV (l.take i)).length + l[i].l.length := by
      rw [List.take_succ_eq_append_getElem hi]
      unfold flatV
      rw [List.flatMap_append, List.length_append]
      simp
    have hb : (flatV (l.take i)).length + l[i].l.length ≤ 1000000 := by
      rw [← hs]
      have h9 : flatV l = flatV (l.take (i + 1)) ++ flatV (l.drop (i + 1)) := by
        unfold flatV
        rw [← List.flatMap_append, List.take_append_drop]
      rw [h9, List.length_append] at hn
      omega
    simp only [mvcc_Store_Size_l0, lt_t hi, cond_true, geto_lt hi, Option.bind_some, wrap_succ (show i ≤ 4294967295 by omega), hs]
    rw [wrap_add (by omega)]) (by simp [mvcc_Store_Size_l0, inrO])
  simpa [mvcc_Store_Size, flatV] using h
/-! ### The statements' own -/
theorem inv_nil : Inv 0 [] [] := ⟨rise_nil, fun x h => (by cases h), fun x h => (by cases h), List.Perm.refl _, fun x h => (by cases h), by simp, by simp⟩
theorem get_is {n : Nat} {l : List mvcc_row} {m : List ref11_Version} (h : Inv n l m) (hn : n ≤ 10000) {a : Nat} (ha : isF a) {e : Int} {o : Option mvcc_Version} (ho : isTop (Lm (fRank a) m) e o) : mvcc_Store_Get (some { rows := l }) a e = some (gotOf o) := by
  obtain ⟨p, h1, h2, _⟩ := got_same h hn ha e
  rw [h2, top_one (rowV_rise h.rise h.vr _) (row_perm h _) h1 ho]
theorem mv_awake : law11_awake = some true := by
  have gx1 : xG { At := 4607182418800017408, Epoch := 2, Index := 0, Del := false, Val := [97] } := ⟨by unfold isF; decide, by unfold vG ver; decide, by decide, by intro y hy; simp at hy; subst hy; exact ⟨by decide, by decide⟩⟩
  have gx2 : xG { At := 4607182418800017408, Epoch := 3, Index := 0, Del := true, Val := [] } := ⟨by unfold isF; decide, by unfold vG ver; decide, by decide, by intro y hy; cases hy⟩
  obtain ⟨p1, m1, q1, i1⟩ := inv_put inv_nil (by omega) gx1
  obtain ⟨p2, m2, q2, i2⟩ := inv_put i1 (by omega) gx2
  have e1 : m1 = [{ At := 4607182418800017408, Epoch := 2, Index := 0, Del := false, Val := [97] }] := by
    have := refput_eq (m := []) (fun y h => by cases h) gx1.1 (by simp) (fun y h => by cases h) gx1.2.1
    rw [q1] at this
    exact some_inj this
  subst e1
  have e2 : m2 = [{ At := 4607182418800017408, Epoch := 2, Index := 0, Del := false, Val := [97] }, { At := 4607182418800017408, Epoch := 3, Index := 0, Del := true, Val := [] }] := by
    have := refput_eq (fun y hy => (i1.xg y hy).1) gx2.1 (by simp) (fun y hy => (i1.xg y hy).2.1) gx2.2.1
    rw [q2] at this
    have := some_inj this
    rw [this]
    simp [notK, ky, tagV, ver, vk, clx]
  subst e2
  have hF : isF 4607182418800017408 := by unfold isF; omega
  have g1 := get_is i2 (by omega) hF (e := 2) (o := some { Epoch := 2, Index := 0, Del := false, Val := [97] }) (by simp [isTop, Lm, ver, vk])
  have g2 := get_is i2 (by omega) hF (e := 3) (o := some { Epoch := 3, Index := 0, Del := true, Val := [] }) (by simp [isTop, Lm, ver, vk])
  have hz := size_eq (l := putS (putS [] (fRank 4607182418800017408) (clr (ver { At := 4607182418800017408, Epoch := 2, Index := 0, Del := false, Val := [97] }))) (fRank 4607182418800017408) (clr (ver { At := 4607182418800017408, Epoch := 3, Index := 0, Del := true, Val := [] }))) (Nat.le_trans (Nat.le_of_eq i2.size) (by decide)) (Nat.le_trans i2.good.len (by decide))
  rw [show (flatV _).length = 2 from i2.size] at hz
  simp only [law11_awake, mvcc_New, Option.bind_some]
  rw [show ({ Epoch := (2:Int), Index := (0:Int), Del := false, Val := [(97:Int)] } : mvcc_Version) = ver { At := 4607182418800017408, Epoch := 2, Index := 0, Del := false, Val := [97] } from rfl, p1, Option.bind_some]
  dsimp only
  rw [show ({ Epoch := (3:Int), Index := (0:Int), Del := true, Val := [] } : mvcc_Version) = ver { At := 4607182418800017408, Epoch := 3, Index := 0, Del := true, Val := [] } from rfl, p2, Option.bind_some]
  dsimp only
  rw [g1, Option.bind_some]
  have hs : sEq (toStr (gotOf (some { Epoch := 2, Index := 0, Del := false, Val := [97] })).Val) (ByteArray.mk #[97]) = true := by decide +kernel
  rw [hs, cond_true, g2, Option.bind_some, hz]
  rfl
end Go.Proofs.Ytbdnbohbmgmonaa
