/- The store of versions: where a number's row stands, and what is put; plainly. -/
import Derived.Test.YtgnkkopjkgdieaaGreatLaneReadsFltS
import Derived.Test.YtgnkkopjkgdieaaGreatLaneReadsCodR
import Derived.Test.YtgnkkopjkgdieaaGreatLaneReadsFltR
import Derived.Test.YtgnkkopjkgdieaaGreatLaneReadsGv
set_option linter.unusedVariables false
set_option linter.unusedSimpArgs false
set_option maxRecDepth 100000
namespace Go.Proofs.YtgnkkopjkgdieaaGreat
open Go Go.V
def rk (x : mvcc_row) : Int := x.rank
def vk (x : mvcc_Version) : Int := x.Epoch * 18446744073709551616 + x.Index
def vG (x : mvcc_Version) : Prop := 0 ≤ x.Epoch ∧ x.Epoch < 18446744073709551616 ∧ 0 ≤ x.Index ∧ x.Index < 18446744073709551616
theorem search_up {α : Type} {L : Int × Int → Option ((Int × Int) ⊕ Int)} (l : List α) (p : α → Bool) (hn : l.length ≤ 1073741824) (hp : Ahd p l)
    (h1 : ∀ (i j k : Nat) (hk : k < l.length), i < j → k = (i + j) / 2 → j ≤ l.length → L ((i : Int), (j : Int)) = some (.inl (bif p l[k] then (((k + 1 : Nat) : Int), (j : Int)) else ((i : Int), (k : Int)))))
    (h2 : ∀ i j : Nat, ¬ i < j → L ((i : Int), (j : Int)) = some (.inr (i : Int))) : loopO L ((0:Int), (l.length : Int)) = some ((lb p l : Nat) : Int) := by
  have key := loop_inv (body := L) (Inv := fun s => ∃ i j : Nat, s = ((i : Int), (j : Int)) ∧ i ≤ j ∧ j ≤ l.length ∧ (∀ a (h : a < l.length), a < i → p l[a] = true) ∧ (∀ a (h : a < l.length), j ≤ a → p l[a] = false))
    (m := fun s => (s.2 - s.1).toNat) (Q := fun r => r = ((lb p l : Nat) : Int)) (fun s hs => by
      obtain ⟨i, j, rfl, g1, g2, g3, g4⟩ := hs
      by_cases hij : i < j
      · have hk : (i + j) / 2 < l.length := by omega
        refine .inl ⟨_, h1 i j _ hk hij rfl g2, ?_, ?_⟩
        · cases hb : p l[(i + j) / 2] with
          | true =>
            refine ⟨(i + j) / 2 + 1, j, rfl, by omega, g2, fun a ha hak => ?_, g4⟩
            by_cases e : a = (i + j) / 2
            · subst e; exact hb
            · exact hp a _ ha hk (by omega) hb
          | false =>
            refine ⟨i, (i + j) / 2, rfl, by omega, by omega, g3, fun a ha hak => ?_⟩
            by_cases e : a = (i + j) / 2
            · subst e; exact hb
            · cases hc : p l[a] with
              | false => rfl
              | true => rw [hp _ a hk ha (by omega) hc] at hb; cases hb
        · cases hb : p l[(i + j) / 2] with
          | true => simp only [cond_true]; omega
          | false => simp only [cond_false]; omega
      · refine .inr ⟨_, h2 i j hij, ?_⟩
        have hij' : i = j := by omega
        subst hij'
        rw [show lb p l = i from takeWhile_len g2 g3 fun h => g4 i h (Nat.le_refl _)]) (s := ((0:Int), (l.length : Int))) ⟨0, l.length, rfl, by omega, by omega, fun a _ h => by omega, fun a h1 h2 => by omega⟩
  obtain ⟨r, h3, h4⟩ := key
  rw [h3, h4]
theorem m_find_eq {l : List mvcc_row} (h : Rise rk l) (hn : l.length ≤ 1000000) (s : Int) : mvcc_Store_find (some { rows := l }) s = some (((pl rk s l : Nat) : Int), hit rk s l) := by
  have hs : loopO (mvcc_Store_find_l0 { rows := l } s) ((0:Int), ((l.length : Nat) : Int)) = some ((lb (lo rk s) l : Nat) : Int) := by
    refine search_up l (lo rk s) (by omega) (h.ahd s) (fun i j k hk hij hke hj => ?_) (fun i j hij => ?_)
    · have e1 : decide ((i : Int) < (j : Int)) = true := by simpa using hij
      have e2 := mid_eq (i := i) (j := j) (by omega)
      rw [← hke] at e2
      simp only [mvcc_Store_find_l0, e1, cond_true, e2, geto_lt hk, Option.bind_some]
      have e3 : IntKind.i64.wrap ((k : Int) + (1:Int)) = ((k + 1 : Nat) : Int) := wrap_add (a := k) (b := 1) (by omega)
      by_cases hl : l[k].rank < s
      · have : ¬ l[k].rank ≥ s := by omega
        simp [lo, rk, hl, e3, this]
      · have : l[k].rank ≥ s := by omega
        simp [lo, rk, hl, this]
    · have e1 : decide ((i : Int) < (j : Int)) = false := by simpa using hij
      simp only [mvcc_Store_find_l0, e1, cond_false, inrO, Option.map_some]
  simp only [mvcc_Store_find, hs, Option.bind_some]
  rw [show lb (lo rk s) l = pl rk s l from rfl]
  unfold hit
  by_cases hk : pl rk s l < l.length
  · have e1 : decide (((pl rk s l : Nat) : Int) < (l.length : Int)) = true := by simpa using hk
    rw [e1, cond_true, geto_lt hk, Option.bind_some, List.getElem?_eq_getElem hk]
    rfl
  · have e1 : decide (((pl rk s l : Nat) : Int) < (l.length : Int)) = false := by simpa using hk
    rw [e1, cond_false, List.getElem?_eq_none (by omega)]
theorem vk_lt {a b : mvcc_Version} (ha : vG a) (hb : vG b) : vk a < vk b ↔ a.Epoch < b.Epoch ∨ (a.Epoch = b.Epoch ∧ a.Index < b.Index) := by
  obtain ⟨a1, a2, a3, a4⟩ := ha
  obtain ⟨b1, b2, b3, b4⟩ := hb
  unfold vk
  omega
theorem vk_eq {a b : mvcc_Version} (ha : vG a) (hb : vG b) : vk a = vk b ↔ a.Epoch = b.Epoch ∧ a.Index = b.Index := by
  obtain ⟨a1, a2, a3, a4⟩ := ha
  obtain ⟨b1, b2, b3, b4⟩ := hb
  unfold vk
  omega
theorem ahd_eq {a b : mvcc_Version} (ha : vG a) (hb : vG b) : mvcc_ahead a b.Epoch b.Index = some (decide (vk a < vk b)) := by
  have h : decide (vk a < vk b) = decide (a.Epoch < b.Epoch ∨ (a.Epoch = b.Epoch ∧ a.Index < b.Index)) := by simp only [vk_lt ha hb]
  rw [h]
  unfold mvcc_ahead
  by_cases h1 : a.Epoch < b.Epoch
  · simp [h1]
  · by_cases h2 : a.Epoch = b.Epoch
    · simp [h2]
    · have h3 : (a.Epoch == b.Epoch) = false := by simpa using h2
      simp [h1, h2, h3]
theorem vfind {r : mvcc_row} {v : mvcc_Version} (hr : Rise vk r.l) (hg : ∀ x ∈ r.l, vG x) (gv : vG v) (hn : r.l.length ≤ 1000000) : loopO (mvcc_Store_Put_l2 r v) ((0:Int), ((r.l.length : Nat) : Int)) = some ((pl vk (vk v) r.l : Nat) : Int) := by
  refine search_up r.l (lo vk (vk v)) (by omega) (hr.ahd _) (fun i j k hk hij hke hj => ?_) (fun i j hij => ?_)
  · have e1 : decide ((i : Int) < (j : Int)) = true := by simpa using hij
    have e2 := mid_eq (i := i) (j := j) (by omega)
    rw [← hke] at e2
    simp only [mvcc_Store_Put_l2, e1, cond_true, e2, geto_lt hk, Option.bind_some, ahd_eq (hg _ (List.getElem_mem hk)) gv]
    have e3 : IntKind.i64.wrap ((k : Int) + (1:Int)) = ((k + 1 : Nat) : Int) := wrap_add (a := k) (b := 1) (by omega)
    by_cases hl : vk r.l[k] < vk v
    · simp [lo, hl, e3]
    · simp [lo, hl]
  · have e1 : decide ((i : Int) < (j : Int)) = false := by simpa using hij
    simp only [mvcc_Store_Put_l2, e1, cond_false, inrO, Option.map_some]
theorem put_at {α : Type} {k : α → Int} {l : List α} {x : α} : (putL k l x)[pl k (k x) l]? = some x := by
  unfold putL
  have h := pl_le k (k x) l
  have e : (l.take (pl k (k x) l)).length = pl k (k x) l := by rw [List.length_take]; omega
  rw [List.getElem?_append_right (by omega), e, Nat.sub_self]; rfl
theorem put_set {α : Type} {k : α → Int} {l : List α} {x y : α} (h : k x = k y) : (putL k l x).set (pl k (k x) l) y = putL k l y := by
  unfold putL
  rw [← h]
  have h := pl_le k (k x) l
  have e : (l.take (pl k (k x) l)).length = pl k (k x) l := by rw [List.length_take]; omega
  rw [List.set_append_right _ _ (by omega), e, Nat.sub_self]; rfl
/-- A version, put among a number's. -/
def clr (v : mvcc_Version) : mvcc_Version := { v with Val := if v.Del then [] else v.Val }
def rowV (l : List mvcc_row) (r : Int) : List mvcc_Version := match rlook rk r l with | some x => x.l | none => []
def putS (l : List mvcc_row) (r : Int) (v : mvcc_Version) : List mvcc_row := putL rk l { rank := r, l := putL vk (rowV l r) v }
structure Good (n : Nat) (l : List mvcc_row) : Prop where
  rise : Rise rk l
  len : l.length ≤ n
  vr : ∀ x ∈ l, Rise vk x.l
  vg : ∀ x ∈ l, ∀ v ∈ x.l, vG v
  vl : ∀ x ∈ l, x.l.length ≤ n
theorem putv {x : mvcc_row} {v : mvcc_Version} {z : List Int} (hr : Rise vk x.l) (hg : ∀ y ∈ x.l, vG y) (gv : vG v) (hn : x.l.length ≤ 1000000) (t : Int × Bool) (rows : List mvcc_row) (hx : geto rows t.1 = some x) :
    mvcc_Store_Put_j1 t v z { rows := rows } = some (some { rows := rows.set t.1.toNat { rank := x.rank, l := putL vk x.l { v with Val := z } } }) := by
  have e0 : vk { v with Val := z } = vk v := rfl
  simp only [mvcc_Store_Put_j1, hx, Option.bind_some, vfind hr hg gv hn]
  have hj : hit vk (vk v) x.l = false → mvcc_Store_Put_j3 x ((pl vk (vk v) x.l : Nat) : Int) v z { rows := rows } t () = some (some { rows := rows.set t.1.toNat { rank := x.rank, l := putL vk x.l { v with Val := z } } }) := fun hh => by
    simp only [mvcc_Store_Put_j3, slices_Insert_mvcc_Version_mvcc_Version]
    rw [gd_true (insOK_pl (x := ({ v with Val := z } : mvcc_Version)) (vk v) (by omega)), Option.bind_some]
    have := ins_miss (k := vk) (l := x.l) (x := { v with Val := z }) (by rw [e0]; exact hh)
    rw [e0] at this
    rw [this]
  by_cases hk : pl vk (vk v) x.l < x.l.length
  · rw [lt_t hk, cond_true, geto_lt hk, Option.bind_some]
    have hvg := hg _ (List.getElem_mem hk)
    by_cases he : vk x.l[pl vk (vk v) x.l] = vk v
    · obtain ⟨q1, q2⟩ := (vk_eq hvg gv).1 he
      have hh : hit vk (vk v) x.l = true := by unfold hit; rw [List.getElem?_eq_getElem hk]; simpa using he
      have hs := set_hit (k := vk) (l := x.l) (x := { v with Val := z }) (by rw [e0]; exact hh)
      rw [e0] at hs
      simp only [q1, q2, beq_self_eq_true, cond_true, Int.toNat_natCast]
      rw [show ({ Epoch := v.Epoch, Index := v.Index, Del := v.Del, Val := z } : mvcc_Version) = { v with Val := z } from rfl, hs]
      rfl
    · have hh : hit vk (vk v) x.l = false := by unfold hit; rw [List.getElem?_eq_getElem hk]; simpa using he
      rw [← hj hh]
      by_cases q1 : x.l[pl vk (vk v) x.l].Epoch = v.Epoch
      · have q2 : ¬ x.l[pl vk (vk v) x.l].Index = v.Index := fun q2 => he ((vk_eq hvg gv).2 ⟨q1, q2⟩)
        have b1 : (x.l[pl vk (vk v) x.l].Epoch == v.Epoch) = true := by simpa using q1
        have b2 : (x.l[pl vk (vk v) x.l].Index == v.Index) = false := by simpa using q2
        simp only [b1, b2, cond_true, cond_false]
        rfl
      · have b1 : (x.l[pl vk (vk v) x.l].Epoch == v.Epoch) = false := by simpa using q1
        simp only [b1, cond_false]
        rfl
  · have hk' := pl_le vk (vk v) x.l
    have e : pl vk (vk v) x.l = x.l.length := by omega
    have hh : hit vk (vk v) x.l = false := by unfold hit; rw [List.getElem?_eq_none (by omega)]
    rw [← hj hh]
    have : decide (((pl vk (vk v) x.l : Nat) : Int) < ((x.l.length : Nat) : Int)) = false := by rw [e]; simp
    rw [this, cond_false]
    rfl
theorem m_put_eq {n : Nat} {l : List mvcc_row} (g : Good n l) (hn : n ≤ 1000000) {a : Nat} (ha : isF a) {v : mvcc_Version} (gv : vG v) (hv : v.Val.length ≤ 1000000) :
    mvcc_Store_Put (some { rows := l }) a v = some (some { rows := putS l (fRank a) (clr v) }) := by
  have hl := g.len
  simp only [mvcc_Store_Put, slices_Clone_byte_byte]
  rw [gd_true (room_le (by simp only [List.length_nil]; omega)), Option.bind_some]
  have e1 : (bif v.Del then (some ([] : List Int)) else some v.Val) = some (clr v).Val := by unfold clr; cases v.Del <;> rfl
  rw [e1, Option.bind_some]
  simp only [mvcc_Store_Put_j0, rank_eq ha, Option.bind_some, m_find_eq g.rise (show l.length ≤ 1000000 by omega)]
  have e2 : ({ v with Val := (clr v).Val } : mvcc_Version) = clr v := rfl
  cases hh : hit rk (fRank a) l with
  | true =>
    obtain ⟨hk, h1, h2⟩ := look_lt hh
    have hm := List.getElem_mem hk
    simp only [Bool.not_true, cond_false, Option.bind_some]
    rw [putv (x := l[pl rk (fRank a) l]) (g.vr _ hm) (g.vg _ hm) gv (by have := g.vl _ hm; omega) _ _ (geto_lt hk), e2]
    have hs := set_hit (k := rk) (l := l) (x := { rank := fRank a, l := putL vk (rowV l (fRank a)) (clr v) }) hh
    show _ = some (some ({ rows := putS l (fRank a) (clr v) } : mvcc_Store))
    unfold putS
    rw [← hs]
    have e3 : rowV l (fRank a) = l[pl rk (fRank a) l].l := by unfold rowV; rw [h2]
    rw [e3]
    have e4 : l[pl rk (fRank a) l].rank = fRank a := h1
    rw [e4]
    rfl
  | false =>
    simp only [Bool.not_false, cond_true, Option.bind_some, slices_Insert_mvcc_row_mvcc_row]
    rw [gd_true (insOK_pl (x := ({ rank := fRank a, l := [] } : mvcc_row)) (fRank a) (by omega)), Option.bind_some]
    have hi := ins_miss (k := rk) (l := l) (x := { rank := fRank a, l := [] }) hh
    rw [show rk ({ rank := fRank a, l := [] } : mvcc_row) = fRank a from rfl] at hi
    rw [hi, Option.bind_some]
    have hp := put_at (k := rk) (l := l) (x := { rank := fRank a, l := [] })
    rw [putv (x := { rank := fRank a, l := [] }) rise_nil (fun y h => by cases h) gv (by simp) _ _ (by rw [geto_nat]; exact hp), e2]
    have hs := put_set (k := rk) (l := l) (x := { rank := fRank a, l := [] }) (y := { rank := fRank a, l := putL vk [] (clr v) }) rfl
    have e3 : rowV l (fRank a) = [] := by
      unfold rowV
      have : rlook rk (fRank a) l = none := by simp [rlook, hh]
      rw [this]
    unfold putS
    rw [e3, ← hs]
    rfl
end Go.Proofs.YtgnkkopjkgdieaaGreat
