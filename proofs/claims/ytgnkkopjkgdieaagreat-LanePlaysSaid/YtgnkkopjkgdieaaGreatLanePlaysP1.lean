/- A part of the proof. -/
import Derived.Test.YtgnkkopjkgdieaaGreatLanePlaysGw
import Derived.Test.YtgnkkopjkgdieaaGreatLanePlaysM
import Derived.Test.YtgnkkopjkgdieaaGreatLanePlaysP0
section
set_option linter.unusedVariables false
set_option linter.unusedSimpArgs false
set_option maxRecDepth 100000
namespace Go.Proofs.YtgnkkopjkgdieaaGreat
open Go Go.V
def rk (x : bV) : Int := x.rank
def vk (x : aY) : Int := x.Epoch * 18446744073709551616 + x.Index
def vG (x : aY) : Prop := 0 ≤ x.Epoch ∧ x.Epoch < 18446744073709551616 ∧ 0 ≤ x.Index ∧ x.Index < 18446744073709551616
theorem uf {α : Type} {L : Int × Int → Option ((Int × Int) ⊕ Int)} (l : List α) (p : α → Bool) (hn : l.length ≤ 1073741824) (hp : Ahd p l)
  (h1 : ∀ (i j k : Nat) (hk : k < l.length), i < j → k = (i + j) / 2 → j ≤ l.length → L ((i : Int), (j : Int)) = some (.inl (bif p l[k] then (((k + 1 : Nat) : Int), (j : Int)) else ((i : Int), (k : Int)))))
  (h2 : ∀ i j : Nat, ¬ i < j → L ((i : Int), (j : Int)) = some (.inr (i : Int))) : bA L ((0:Int), (l.length : Int)) = some ((lb p l : Nat) : Int) := by
 have key := nz (body := L) (Inv := fun s => ∃ i j : Nat, s = ((i : Int), (j : Int)) ∧ i ≤ j ∧ j ≤ l.length ∧ (∀ a (h : a < l.length), a < i → p l[a] = true) ∧ (∀ a (h : a < l.length), j ≤ a → p l[a] = false))
  (m := fun s => (s.2 - s.1).toNat) (Q := fun r => r = ((lb p l : Nat) : Int)) (fun s hs => by
   obtain ⟨i, j, rfl, g1, g2, g3, g4⟩ := hs
   by_cases hij : i < j
   ·have hk : (i + j) / 2 < l.length := by omega
    refine .inl ⟨_, h1 i j _ hk hij rfl g2, ?_, ?_⟩
    ·cases hb : p l[(i + j) / 2] with
     | true =>
      refine ⟨(i + j) / 2 + 1, j, rfl, by omega, g2, fun a ha hak => ?_, g4⟩
      by_cases e : a = (i + j) / 2
      ·subst e; exact hb
      ·exact hp a _ ha hk (by omega) hb
     | false =>
      refine ⟨i, (i + j) / 2, rfl, by omega, by omega, g3, fun a ha hak => ?_⟩
      by_cases e : a = (i + j) / 2
      ·subst e; exact hb
      ·cases hc : p l[a] with
       | false => rfl
       | true => rw [hp _ a hk ha (by omega) hc] at hb; cases hb
    ·cases hb : p l[(i + j) / 2] with
     | true => simp only [cond_true]; omega
     | false => simp only [cond_false]; omega
   ·refine .inr ⟨_, h2 i j hij, ?_⟩
    have hij' : i = j := by omega
    subst hij'
    rw [show lb p l = i from qm g2 g3 fun h => g4 i h (Nat.le_refl _)]) (s := ((0:Int), (l.length : Int))) ⟨0, l.length, rfl, by omega, by omega, fun a _ h => by omega, fun a h1 h2 => by omega⟩
 obtain ⟨r, h3, h4⟩ := key
 rw [h3, h4]
theorem uC {l : List bV} (h : fN rk l) (hn : l.length ≤ 1000000) (s : Int) : gD (some { rows := l }) s = some (((pl rk s l : Nat) : Int), hit rk s l) := by
 have hs : bA (gK { rows := l } s) ((0:Int), ((l.length : Nat) : Int)) = some ((lb (lo rk s) l : Nat) : Int) := by
  refine uf l (lo rk s) (by omega) (h.ahd s) (fun i j k hk hij hke hj => ?_) (fun i j hij => ?_)
  ·have e1 : decide ((i : Int) < (j : Int)) = true := by simpa using hij
   have e2 := tI (i := i) (j := j) (by omega)
   rw [← hke] at e2
   simp only [gK, e1, cond_true, e2, br hk, Option.bind_some]
   have e3 : IntKind.i64.wrap ((k : Int) + (1:Int)) = ((k + 1 : Nat) : Int) := wrap_add (a := k) (b := 1) (by omega)
   by_cases hl : l[k].rank < s
   ·have : ¬ l[k].rank ≥ s := by omega
    simp [lo, rk, hl, e3, this]
   ·have : l[k].rank ≥ s := by omega
    simp [lo, rk, hl, this]
  ·have e1 : decide ((i : Int) < (j : Int)) = false := by simpa using hij
   simp only [gK, e1, cond_false, bB, Option.map_some]
 simp only [gD, hs, Option.bind_some]
 rw [show lb (lo rk s) l = pl rk s l from rfl]
 unfold hit
 by_cases hk : pl rk s l < l.length
 ·have e1 : decide (((pl rk s l : Nat) : Int) < (l.length : Int)) = true := by simpa using hk
  rw [e1, cond_true, br hk, Option.bind_some, List.getElem?_eq_getElem hk]
  rfl
 ·have e1 : decide (((pl rk s l : Nat) : Int) < (l.length : Int)) = false := by simpa using hk
  rw [e1, cond_false, List.getElem?_eq_none (by omega)]
theorem AE {a b : aY} (ha : vG a) (hb : vG b) : vk a < vk b ↔ a.Epoch < b.Epoch ∨ (a.Epoch = b.Epoch ∧ a.Index < b.Index) := by
 obtain ⟨a1, a2, a3, a4⟩ := ha
 obtain ⟨b1, b2, b3, b4⟩ := hb
 unfold vk
 omega
theorem De {a b : aY} (ha : vG a) (hb : vG b) : vk a = vk b ↔ a.Epoch = b.Epoch ∧ a.Index = b.Index := by
 obtain ⟨a1, a2, a3, a4⟩ := ha
 obtain ⟨b1, b2, b3, b4⟩ := hb
 unfold vk
 omega
theorem EM {a b : aY} (ha : vG a) (hb : vG b) : pA a b.Epoch b.Index = some (decide (vk a < vk b)) := by
 have h : decide (vk a < vk b) = decide (a.Epoch < b.Epoch ∨ (a.Epoch = b.Epoch ∧ a.Index < b.Index)) := by simp only [AE ha hb]
 rw [h]
 unfold pA
 by_cases h1 : a.Epoch < b.Epoch
 ·simp [h1]
 ·by_cases h2 : a.Epoch = b.Epoch
  ·simp [h2]
  ·have h3 : (a.Epoch == b.Epoch) = false := by simpa using h2
   simp [h1, h2, h3]
theorem Fv {r : bV} {v : aY} (hr : fN vk r.l) (hg : ∀ x ∈ r.l, vG x) (gv : vG v) (hn : r.l.length ≤ 1000000) : bA (im r v) ((0:Int), ((r.l.length : Nat) : Int)) = some ((pl vk (vk v) r.l : Nat) : Int) := by
 refine uf r.l (lo vk (vk v)) (by omega) (hr.ahd _) (fun i j k hk hij hke hj => ?_) (fun i j hij => ?_)
 ·have e1 : decide ((i : Int) < (j : Int)) = true := by simpa using hij
  have e2 := tI (i := i) (j := j) (by omega)
  rw [← hke] at e2
  simp only [im, e1, cond_true, e2, br hk, Option.bind_some, EM (hg _ (List.getElem_mem hk)) gv]
  have e3 : IntKind.i64.wrap ((k : Int) + (1:Int)) = ((k + 1 : Nat) : Int) := wrap_add (a := k) (b := 1) (by omega)
  by_cases hl : vk r.l[k] < vk v
  ·simp [lo, hl, e3]
  ·simp [lo, hl]
 ·have e1 : decide ((i : Int) < (j : Int)) = false := by simpa using hij
  simp only [im, e1, cond_false, bB, Option.map_some]
theorem Ca {α : Type} {k : α → Int} {l : List α} {x : α} : (kz k l x)[pl k (k x) l]? = some x := by
 unfold kz
 have h := tT k (k x) l
 have e : (l.take (pl k (k x) l)).length = pl k (k x) l := by rw [List.length_take]; omega
 rw [List.getElem?_append_right (by omega), e, Nat.sub_self]; rfl
theorem AM {α : Type} {k : α → Int} {l : List α} {x y : α} (h : k x = k y) : (kz k l x).set (pl k (k x) l) y = kz k l y := by
 unfold kz
 rw [← h]
 have h := tT k (k x) l
 have e : (l.take (pl k (k x) l)).length = pl k (k x) l := by rw [List.length_take]; omega
 rw [List.set_append_right _ _ (by omega), e, Nat.sub_self]; rfl
def clr (v : aY) : aY := { v with Val := if v.Del then [] else v.Val }
def mM (l : List bV) (r : Int) : List aY := match hY rk r l with | some x => x.l | none => []
def yc (l : List bV) (r : Int) (v : aY) : List bV := kz rk l { rank := r, l := kz vk (mM l r) v }
structure Good (n : Nat) (l : List bV) : Prop where
 rise : fN rk l
 len : l.length ≤ n
 vr : ∀ x ∈ l, fN vk x.l
 vg : ∀ x ∈ l, ∀ v ∈ x.l, vG v
 vl : ∀ x ∈ l, x.l.length ≤ n
theorem Fz {x : bV} {v : aY} {z : List Int} (hr : fN vk x.l) (hg : ∀ y ∈ x.l, vG y) (gv : vG v) (hn : x.l.length ≤ 1000000) (t : Int × Bool) (rows : List bV) (hx : df rows t.1 = some x) :
  jH t v z { rows := rows } = some (some { rows := rows.set t.1.toNat { rank := x.rank, l := kz vk x.l { v with Val := z } } }) := by
 have e0 : vk { v with Val := z } = vk v := rfl
 simp only [jH, hx, Option.bind_some, Fv hr hg gv hn]
 have hj : hit vk (vk v) x.l = false → jP x ((pl vk (vk v) x.l : Nat) : Int) v z { rows := rows } t () = some (some { rows := rows.set t.1.toNat { rank := x.rank, l := kz vk x.l { v with Val := z } } }) := fun hh => by
  simp only [jP, dN]
  rw [dh (rH (x := ({ v with Val := z } : aY)) (vk v) (by omega)), Option.bind_some]
  have := rS (k := vk) (l := x.l) (x := { v with Val := z }) (by rw [e0]; exact hh)
  rw [e0] at this
  rw [this]
 by_cases hk : pl vk (vk v) x.l < x.l.length
 ·rw [gZ hk, cond_true, br hk, Option.bind_some]
  have hvg := hg _ (List.getElem_mem hk)
  by_cases he : vk x.l[pl vk (vk v) x.l] = vk v
  ·obtain ⟨q1, q2⟩ := (De hvg gv).1 he
   have hh : hit vk (vk v) x.l = true := by unfold hit; rw [List.getElem?_eq_getElem hk]; simpa using he
   have hs := uW (k := vk) (l := x.l) (x := { v with Val := z }) (by rw [e0]; exact hh)
   rw [e0] at hs
   simp only [q1, q2, beq_self_eq_true, cond_true, Int.toNat_natCast]
   rw [show ({ v with Val := z } : aY) = { v with Val := z } from rfl, hs]
   rfl
  ·have hh : hit vk (vk v) x.l = false := by unfold hit; rw [List.getElem?_eq_getElem hk]; simpa using he
   rw [← hj hh]
   by_cases q1 : x.l[pl vk (vk v) x.l].Epoch = v.Epoch
   ·have q2 : ¬ x.l[pl vk (vk v) x.l].Index = v.Index := fun q2 => he ((De hvg gv).2 ⟨q1, q2⟩)
    have b1 : (x.l[pl vk (vk v) x.l].Epoch == v.Epoch) = true := by simpa using q1
    have b2 : (x.l[pl vk (vk v) x.l].Index == v.Index) = false := by simpa using q2
    simp only [b1, b2, cond_true, cond_false]
    rfl
   ·have b1 : (x.l[pl vk (vk v) x.l].Epoch == v.Epoch) = false := by simpa using q1
    simp only [b1, cond_false]
    rfl
 ·have hk' := tT vk (vk v) x.l
  have e : pl vk (vk v) x.l = x.l.length := by omega
  have hh : hit vk (vk v) x.l = false := by unfold hit; rw [List.getElem?_eq_none (by omega)]
  rw [← hj hh]
  have : decide (((pl vk (vk v) x.l : Nat) : Int) < ((x.l.length : Nat) : Int)) = false := by rw [e]; simp
  rw [this, cond_false]
  rfl
theorem CX {n : Nat} {l : List bV} (g : Good n l) (hn : n ≤ 1000000) {a : Nat} (ha : isF a) {v : aY} (gv : vG v) (hv : v.Val.length ≤ 1000000) :
  ie (some { rows := l }) a v = some (some { rows := yc l (aB a) (clr v) }) := by
 have hl := g.len
 simp only [ie, dP]
 rw [dh (jF (by simp only [List.length_nil]; omega)), Option.bind_some]
 have e1 : (bif v.Del then (some ([] : List Int)) else some v.Val) = some (clr v).Val := by unfold clr; cases v.Del <;> rfl
 rw [e1, Option.bind_some]
 simp only [lG, pd ha, Option.bind_some, uC g.rise (show l.length ≤ 1000000 by omega)]
 have e2 : ({ v with Val := (clr v).Val } : aY) = clr v := rfl
 cases hh : hit rk (aB a) l with
 | true =>
  obtain ⟨hk, h1, h2⟩ := jL hh
  have hm := List.getElem_mem hk
  simp only [Bool.not_true, cond_false, Option.bind_some]
  rw [Fz (x := l[pl rk (aB a) l]) (g.vr _ hm) (g.vg _ hm) gv (by have := g.vl _ hm; omega) _ _ (br hk), e2]
  have hs := uW (k := rk) (l := l) (x := { rank := aB a, l := kz vk (mM l (aB a)) (clr v) }) hh
  show _ = some (some ({ rows := yc l (aB a) (clr v) } : cP))
  unfold yc
  rw [← hs]
  have e3 : mM l (aB a) = l[pl rk (aB a) l].l := by unfold mM; rw [h2]
  rw [e3]
  have e4 : l[pl rk (aB a) l].rank = aB a := h1
  rw [e4]
  rfl
 | false =>
  simp only [Bool.not_false, cond_true, Option.bind_some, eN]
  rw [dh (rH (x := ({ rank := aB a, l := [] } : bV)) (aB a) (by omega)), Option.bind_some]
  have hi := rS (k := rk) (l := l) (x := { rank := aB a, l := [] }) hh
  rw [show rk ({ rank := aB a, l := [] } : bV) = aB a from rfl] at hi
  rw [hi, Option.bind_some]
  have hp := Ca (k := rk) (l := l) (x := { rank := aB a, l := [] })
  rw [Fz (x := { rank := aB a, l := [] }) pJ (fun y h => by cases h) gv (by simp) _ _ (by rw [rR]; exact hp), e2]
  have hs := AM (k := rk) (l := l) (x := { rank := aB a, l := [] }) (y := { rank := aB a, l := kz vk [] (clr v) }) rfl
  have e3 : mM l (aB a) = [] := by
   unfold mM
   have : hY rk (aB a) l = none := by simp [hY, hh]
   rw [this]
  unfold yc
  rw [e3, ← hs]
  rfl
end Go.Proofs.YtgnkkopjkgdieaaGreat

end
section
set_option linter.unusedVariables false
set_option linter.unusedSimpArgs false
set_option maxRecDepth 100000
namespace Go.Proofs.YtgnkkopjkgdieaaGreat
open Go Go.V
def ver (x : aF) : aY := { Epoch := x.Epoch, Index := x.Index, Del := x.Del, Val := x.Val }
def qR (x : aF) : Int × aY := (aB x.At, ver x)
def ky (p : Int × aY) : Int × Int := (p.1, vk p.2)
def lF (l : List bV) : List (Int × aY) := l.flatMap fun r => r.l.map fun v => (r.rank, v)
def xG (x : aF) : Prop := isF x.At ∧ vG (ver x) ∧ x.Val.length ≤ 256 ∧ U8s x.Val
def clx (x : aF) : aF := { x with Val := if x.Del then [] else x.Val }
def tF (k : Int × Int) (p : Int × aY) : Bool := !(decide (ky p = k))
structure Inv (n : Nat) (l : List bV) (m : List aF) : Prop where
 rise : fN rk l
 ne : ∀ x ∈ l, x.l ≠ []
 vr : ∀ x ∈ l, fN vk x.l
 pm : (lF l).Perm (m.map qR)
 xg : ∀ x ∈ m, xG x
 cl : ∀ x ∈ m, x.Del = true → x.Val = []
 nd : (m.map fun x => ky (qR x)).Nodup
 mlen : m.length ≤ n
theorem ub {l : List bV} {p : Int × aY} : p ∈ lF l ↔ ∃ x ∈ l, x.rank = p.1 ∧ p.2 ∈ x.l := by
 unfold lF
 rw [List.mem_flatMap]
 constructor
 ·rintro ⟨x, hx, hp⟩
  obtain ⟨v, hv, rfl⟩ := List.mem_map.1 hp
  exact ⟨x, hx, rfl, hv⟩
 ·rintro ⟨x, hx, h1, h2⟩
  exact ⟨x, hx, List.mem_map.2 ⟨p.2, h2, by rw [h1]⟩⟩
theorem vV : ∀ {l : List bV}, (∀ x ∈ l, x.l ≠ []) → l.length ≤ (lF l).length
 | [], _ => Nat.zero_le _
 | x :: l, h => by
  have h1 := vV (l := l) fun y hy => h y (by simp [hy])
  have h2 : 0 < x.l.length := List.length_pos_iff.2 (h x (by simp))
  show _ ≤ (((x.l.map fun v => (x.rank, v)) ++ lF l).length)
  rw [List.length_append, List.length_map, List.length_cons]
  omega
theorem xd : ∀ {l : List bV}, ∀ x ∈ l, x.l.length ≤ (lF l).length
 | [], x, h => by cases h
 | y :: l, x, h => by
  show _ ≤ (((y.l.map fun v => (y.rank, v)) ++ lF l).length)
  rw [List.length_append, List.length_map]
  rcases List.mem_cons.1 h with rfl | h
  ·omega
  ·have := xd (l := l) x h; omega
theorem Inv.size {n : Nat} {l : List bV} {m : List aF} (h : Inv n l m) : (lF l).length = m.length := by rw [h.pm.length_eq, List.length_map]
theorem Inv.Fg {n : Nat} {l : List bV} {m : List aF} (h : Inv n l m) : Good n l where
 rise := h.rise
 len := by have := vV h.ne; have := h.size; have := h.mlen; omega
 vr := h.vr
 vg := fun x hx v hv => by
  have h1 : (x.rank, v) ∈ m.map qR := h.pm.mem_iff.1 (ub.2 ⟨x, hx, rfl, hv⟩)
  obtain ⟨y, hy, e⟩ := List.mem_map.1 h1
  have e2 : ver y = v := congrArg Prod.snd e
  rw [← e2]; exact (h.xg y hy).2.1
 vl := fun x hx => by have := xd x hx; have := h.size; have := h.mlen; omega
theorem wM {l k : List bV} (h : l.Perm k) : (lF l).Perm (lF k) := List.Perm.flatMap_right _ h
theorem Bp {l : List bV} (hr : fN rk l) (r : Int) : l.Perm ((hY rk r l).toList ++ l.filter (fun x => rk x != r)) := by
 rw [kA hr]
 unfold oG
 cases hh : hit rk r l with
 | false =>
  have e : pr rk r l = pl rk r l := by simp [pr, hh]
  have e2 : hY rk r l = none := by simp [hY, hh]
  rw [e, e2, List.take_append_drop]; exact List.Perm.refl _
 | true =>
  obtain ⟨hk, h3, h4⟩ := jL hh
  have e : pr rk r l = pl rk r l + 1 := by simp [pr, hh]
  rw [e, h4]
  have h5 : l = l.take (pl rk r l) ++ l[pl rk r l] :: l.drop (pl rk r l + 1) := by rw [← List.drop_eq_getElem_cons hk, List.take_append_drop]
  have h6 : (l.take (pl rk r l) ++ l[pl rk r l] :: l.drop (pl rk r l + 1)).Perm (l[pl rk r l] :: (l.take (pl rk r l) ++ l.drop (pl rk r l + 1))) := List.perm_middle
  rw [← h5] at h6
  exact h6
theorem jj {l : List bV} (hr : fN rk l) (r : Int) : (lF l).Perm ((mM l r).map (fun v => (r, v)) ++ lF (l.filter (fun x => rk x != r))) := by
 have h1 := wM (Bp hr r)
 have h2 : lF ((hY rk r l).toList ++ l.filter (fun x => rk x != r)) = (mM l r).map (fun v => (r, v)) ++ lF (l.filter (fun x => rk x != r)) := by
  unfold lF
  rw [List.flatMap_append]
  congr 1
  unfold mM
  cases e : hY rk r l with
  | none => rfl
  | some x =>
   have e2 : x.rank = r := ((kt hr).1 e).2
   simp [e2]
 rwa [h2] at h1
theorem yq {l : List bV} {r : Int} {p : Int × aY} (h : p ∈ lF (l.filter (fun x => rk x != r))) : p.1 ≠ r := by
 obtain ⟨x, hx, h1, _⟩ := ub.1 h
 have := (List.mem_filter.1 hx).2
 rw [← h1]
 simpa [rk] using this
theorem sG {l : List bV} (hr : fN rk l) (hv : ∀ x ∈ l, fN vk x.l) (r : Int) : fN vk (mM l r) := by
 unfold mM
 cases e : hY rk r l with
 | none => exact pJ
 | some x => exact hv x ((kt hr).1 e).1
theorem CT {l : List bV} (hr : fN rk l) (hv : ∀ x ∈ l, fN vk x.l) (r : Int) (v : aY) : (lF (yc l r v)).Perm ((r, v) :: (lF l).filter (tF (r, vk v))) := by
 have h1 := wM (oo hr { rank := r, l := kz vk (mM l r) v })
 have h2 : lF ({ rank := r, l := kz vk (mM l r) v } :: l.filter (fun y => rk y != rk { rank := r, l := kz vk (mM l r) v })) = (kz vk (mM l r) v).map (fun w => (r, w)) ++ lF (l.filter (fun x => rk x != r)) := rfl
 rw [h2] at h1
 have h3 := (oo (sG hr hv r) v).map (fun w => (r, w))
 have h4 := (jj hr r).filter (tF (r, vk v))
 rw [List.filter_append] at h4
 have h5 : (lF (l.filter (fun x => rk x != r))).filter (tF (r, vk v)) = lF (l.filter (fun x => rk x != r)) := List.filter_eq_self.2 fun p hp => by
  have := yq hp
  simp [tF, ky, this]
 have h6 : ((mM l r).map (fun w => (r, w))).filter (tF (r, vk v)) = ((mM l r).filter (fun y => vk y != vk v)).map (fun w => (r, w)) := by
  rw [List.filter_map]
  congr 1
  refine List.filter_congr fun w _ => ?_
  simp [tF, ky, bne]
  rfl
 rw [h5, h6] at h4
 refine h1.trans ?_
 refine (h3.append_right _).trans ?_
 rw [List.map_cons, List.cons_append]
 exact (h4.symm).cons _
theorem ud {m : List aF} {x : aF} (hm : ∀ y ∈ m, isF y.At) (hx : isF x.At) (hn : m.length ≤ 1000000) (gm : ∀ y ∈ m, vG (ver y)) (gx : vG (ver x)) :
  nX m x = some (m.filter (fun y => tF (ky (qR x)) (qR y)) ++ [clx x]) := by
 have h := lz (body := me m x) m (fun y => tF (ky (qR x)) (qR y)) id id (fun i hi out ho => by
  have hmi := List.getElem_mem hi
  simp only [me, gZ hi, cond_true, br hi, Option.bind_some, nO (hm _ hmi) hx, bN (show i ≤ 4294967295 by omega), dh (fe (xs := out) (x := m[i]) (by omega))]
  have hk : tF (ky (qR x)) (qR m[i]) = !(decide (aB m[i].At = aB x.At) && (decide (m[i].Epoch = x.Epoch) && decide (m[i].Index = x.Index))) := by
   unfold tF
   congr 1
   rw [Bool.eq_iff_iff]
   simp only [decide_eq_true_eq, Bool.and_eq_true, ky, qR, Prod.mk.injEq, De (gm _ hmi) gx]
   exact Iff.rfl
  rw [hk]
  by_cases h1 : aB m[i].At = aB x.At
  ·by_cases h2 : m[i].Epoch = x.Epoch
   ·by_cases h3 : m[i].Index = x.Index
    ·simp [h1, h2, h3]
    ·have b3 : (m[i].Index != x.Index) = true := by simpa using h3
     simp [h1, h2, h3, b3]
   ·have b2 : (m[i].Epoch != x.Epoch) = true := by simpa using h2
    simp [h1, h2, b2]
  ·simp [h1]) (fun out ho => by simp [me, bB])
 simp only [nX, h, Option.bind_some, ph]
 have e1 : (bif x.Del then (some ([] : List Int)) else some x.Val) = some (clx x).Val := by unfold clx; cases x.Del <;> rfl
 rw [e1, Option.bind_some]
 simp only [pe]
 have hl := List.length_filter_le (fun y => tF (ky (qR x)) (qR y)) m
 rw [dh (fe (by simp only [id, List.length_map]; omega))]
 simp [clx]
theorem Ed (x : aF) : qR (clx x) = (aB x.At, clr (ver x)) := rfl
theorem BH {x : aF} (h : xG x) : xG (clx x) := by
 obtain ⟨h1, h2, h3, h4⟩ := h
 refine ⟨h1, h2, ?_, ?_⟩
 ·unfold clx; split
  ·simp
  ·exact h3
 ·unfold clx; split
  ·intro y hy; cases hy
  ·exact h4
theorem Ap {n : Nat} {l : List bV} {m : List aF} (h : Inv n l m) (hn : n ≤ 10000) {x : aF} (gx : xG x) :
  ie (some { rows := l }) x.At (ver x) = some (some { rows := yc l (aB x.At) (clr (ver x)) }) ∧
  ∃ m', nX m x = some m' ∧ Inv (n + 1) (yc l (aB x.At) (clr (ver x))) m' := by
 refine ⟨CX h.Fg (by omega) gx.1 gx.2.1 (by have := gx.2.2.1; show x.Val.length ≤ _; omega), _, ud (fun y hy => (h.xg y hy).1) gx.1 (by have := h.mlen; omega) (fun y hy => (h.xg y hy).2.1) gx.2.1, ?_⟩
 have hvr := sG h.rise h.vr (aB x.At)
 refine ⟨pt h.rise _, fun y hy => ?_, fun y hy => ?_, ?_, fun y hy => ?_, fun y hy => ?_, ?_, ?_⟩
 ·rcases (kR h.rise _ y).1 hy with rfl | ⟨h1, _⟩
  ·intro e
   have := (kR hvr (clr (ver x)) (clr (ver x))).2 (.inl rfl)
   have e' : kz vk (mM l (aB x.At)) (clr (ver x)) = [] := e
   rw [e'] at this; cases this
  ·exact h.ne y h1
 ·rcases (kR h.rise _ y).1 hy with rfl | ⟨h1, _⟩
  ·exact pt hvr _
  ·exact h.vr y h1
 ·refine (CT h.rise h.vr _ _).trans ?_
  rw [List.map_append, List.map_cons, List.map_nil, Ed]
  have h1 := (h.pm.filter (tF (aB x.At, vk (clr (ver x)))))
  rw [List.filter_map] at h1
  refine List.Perm.trans ?_ List.perm_append_comm
  exact h1.cons _
 ·rcases List.mem_append.1 hy with hy | hy
  ·exact h.xg y (List.mem_filter.1 hy).1
  ·rw [List.mem_singleton.1 hy]; exact BH gx
 ·rcases List.mem_append.1 hy with hy | hy
  ·exact h.cl y (List.mem_filter.1 hy).1
  ·rw [List.mem_singleton.1 hy]; intro hd; have hd : x.Del = true := hd; show (if x.Del then [] else x.Val) = []; rw [if_pos hd]
 ·rw [List.map_append, List.map_cons, List.map_nil]
  refine List.nodup_append.2 ⟨List.Nodup.sublist (List.Sublist.map _ List.filter_sublist) h.nd, by simp, fun a ha b hb => ?_⟩
  obtain ⟨y, hy, rfl⟩ := List.mem_map.1 ha
  rw [List.mem_singleton.1 hb]
  have := (List.mem_filter.1 hy).2
  exact fun e => by rw [show ky (qR (clx x)) = ky (qR x) from rfl] at e; simp [tF, e] at this
 ·have := List.length_filter_le (fun y => tF (ky (qR x)) (qR y)) m
  have := h.mlen
  rw [List.length_append, List.length_singleton]; omega
def Lm (r : Int) (m : List aF) : List aY := (m.filter (fun y => decide (aB y.At = r))).map ver
theorem xR {r : Int} {m : List aF} {v : aY} : v ∈ Lm r m ↔ ∃ y ∈ m, aB y.At = r ∧ ver y = v := by
 simp only [Lm, List.mem_map, List.mem_filter, decide_eq_true_eq, and_assoc]
theorem vY {n : Nat} {l : List bV} {m : List aF} (h : Inv n l m) (r : Int) : (mM l r).Perm (Lm r m) := by
 have h1 := (jj h.rise r).filter (fun p => decide (p.1 = r))
 rw [List.filter_append] at h1
 have e1 : ((mM l r).map (fun v => (r, v))).filter (fun p => decide (p.1 = r)) = (mM l r).map (fun v => (r, v)) := List.filter_eq_self.2 fun p hp => by
  obtain ⟨v, _, rfl⟩ := List.mem_map.1 hp; simp
 have e2 : (lF (l.filter (fun x => rk x != r))).filter (fun p => decide (p.1 = r)) = [] := List.filter_eq_nil_iff.2 fun p hp => by
  have := yq hp; simpa using this
 rw [e1, e2, List.append_nil] at h1
 have h2 := (h1.symm.trans (h.pm.filter (fun p => decide (p.1 = r)))).map Prod.snd
 rw [List.map_map, List.filter_map, List.map_map] at h2
 rw [show (Prod.snd ∘ fun v : aY => (r, v)) = id from rfl, List.map_id] at h2
 exact h2
theorem yy {α : Type} {k : α → Int} {l : List α} (h : fN k l) {a b : α} (ha : a ∈ l) (hb : b ∈ l) (e : k a = k b) : a = b := by
 obtain ⟨i, hi, rfl⟩ := List.mem_iff_getElem.1 ha
 obtain ⟨j, hj, rfl⟩ := List.mem_iff_getElem.1 hb
 rcases Nat.lt_trichotomy i j with h1 | h1 | h1
 ·have := h.lt hi hj h1; omega
 ·subst h1; rfl
 ·have := h.lt hj hi h1; omega
def uP (L : List aY) (e : Int) : Option aY → Prop
 | none => ∀ v ∈ L, e < v.Epoch
 | some v => v ∈ L ∧ v.Epoch ≤ e ∧ ∀ w ∈ L, w.Epoch ≤ e → vk w ≤ vk v
def tp : Option aY → ct
 | none => { Has := false, Val := [] }
 | some v => bif v.Del then { Has := false, Val := [] } else { Has := true, Val := v.Val }
theorem Af {L K : List aY} {e : Int} {o p : Option aY} (hL : fN vk L) (hp : L.Perm K) (h1 : uP L e o) (h2 : uP K e p) : o = p := by
 cases o with
 | none =>
  cases p with
  | none => rfl
  | some v => have := h1 v (hp.mem_iff.2 h2.1); have := h2.2.1; omega
 | some v =>
  cases p with
  | none => have := h2 v (hp.mem_iff.1 h1.1); have := h1.2.1; omega
  | some w =>
   have a := h1.2.2 w (hp.mem_iff.2 h2.1) h2.2.1
   have b := h2.2.2 v (hp.mem_iff.1 h1.1) h1.2.1
   rw [yy hL h1.1 (hp.mem_iff.2 h2.1) (by omega)]
def upto (e : Int) (v : aY) : Bool := decide (v.Epoch ≤ e)
theorem BV {L : List aY} (hr : fN vk L) (hg : ∀ v ∈ L, vG v) (e : Int) : Ahd (upto e) L := fun a b ha hb hab hp => by
 have h1 := (AE (hg _ (List.getElem_mem ha)) (hg _ (List.getElem_mem hb))).1 (hr.lt ha hb hab)
 simp only [upto, decide_eq_true_eq] at hp ⊢
 omega
theorem Dz {F : Int × Int → Option ((Int × Int) ⊕ Int)} {L : List aY} (e : Int) (hr : fN vk L) (hg : ∀ v ∈ L, vG v) (hn : L.length ≤ 1000000)
  (hF : ∀ s, F s = (match s with | (i, j) => (bif (decide (i < j)) then (((df L (IntKind.i64.wrap (fw .u64 (IntKind.u64.wrap (IntKind.i64.wrap (i + j))) (1:Int)))).bind fun x => (some (decide (x.Epoch > e)))).bind fun z => (bif (!z) then (some (Sum.inl ((IntKind.i64.wrap ((IntKind.i64.wrap (fw .u64 (IntKind.u64.wrap (IntKind.i64.wrap (i + j))) (1:Int))) + (1:Int))), j))) else (some (Sum.inl (i, (IntKind.i64.wrap (fw .u64 (IntKind.u64.wrap (IntKind.i64.wrap (i + j))) (1:Int)))))))) else (bB (some i))))) :
  bA F ((0:Int), ((L.length : Nat) : Int)) = some ((lb (upto e) L : Nat) : Int) := by
 refine uf L (upto e) (by omega) (BV hr hg e) (fun i j k hk hij hke hj => ?_) (fun i j hij => ?_)
 ·have e1 : decide ((i : Int) < (j : Int)) = true := by simpa using hij
  have e2 := tI (i := i) (j := j) (by omega)
  rw [← hke] at e2
  simp only [hF, e1, cond_true, e2, br hk, Option.bind_some]
  have e3 : IntKind.i64.wrap ((k : Int) + (1:Int)) = ((k + 1 : Nat) : Int) := wrap_add (a := k) (b := 1) (by omega)
  by_cases hl : L[k].Epoch ≤ e
  ·have : ¬ L[k].Epoch > e := by omega
   simp [upto, hl, e3, this]
  ·have : L[k].Epoch > e := by omega
   simp [upto, hl, this]
 ·have e1 : decide ((i : Int) < (j : Int)) = false := by simpa using hij
  simp only [hF, e1, cond_false, bB, Option.map_some]
theorem EN {L : List aY} (e : Int) (hr : fN vk L) (hg : ∀ v ∈ L, vG v) : (lb (upto e) L = 0 ∧ uP L e none) ∨ (∃ h : lb (upto e) L - 1 < L.length, 0 < lb (upto e) L ∧ uP L e (some L[lb (upto e) L - 1])) := by
 have hle := xl (upto e) L
 have hge : ∀ i (h : i < L.length), lb (upto e) L ≤ i → e < L[i].Epoch := fun i h hi => by
  have hk : lb (upto e) L < L.length := by omega
  have h1 : upto e L[lb (upto e) L] = false := Cf hk
  have h2 : e < L[lb (upto e) L].Epoch := by simpa [upto] using h1
  rcases Nat.eq_or_lt_of_le hi with h3 | h3
  ·subst h3; exact h2
  ·have := (AE (hg _ (List.getElem_mem hk)) (hg _ (List.getElem_mem h))).1 (hr.lt hk h h3); omega
 by_cases h0 : lb (upto e) L = 0
 ·refine .inl ⟨h0, fun v hv => ?_⟩
  obtain ⟨i, hi, rfl⟩ := List.mem_iff_getElem.1 hv
  exact hge i hi (by omega)
 ·have hk : lb (upto e) L - 1 < L.length := by omega
  refine .inr ⟨hk, by omega, List.getElem_mem hk, ?_, fun w hw hwe => ?_⟩
  ·have := BZ (p := upto e) (l := L) (a := lb (upto e) L - 1) (by omega)
   simpa [upto] using this
  ·obtain ⟨i, hi, rfl⟩ := List.mem_iff_getElem.1 hw
   have hil : i < lb (upto e) L := by
    rcases Nat.lt_or_ge i (lb (upto e) L) with h | h
    ·exact h
    ·have := hge i hi h; omega
   rcases Nat.eq_or_lt_of_le (show i ≤ lb (upto e) L - 1 by omega) with h | h
   ·subst h; exact Int.le_refl _
   ·have := hr.lt hi hk h; omega
theorem ot {L : List aY} (e : Int) (hr : fN vk L) (hg : ∀ v ∈ L, vG v) (hn : L.length ≤ 1000000) (hv : ∀ v ∈ L, v.Val.length ≤ 1000000) : ∃ o, uP L e o ∧ og L e = some (tp o) := by
 have h := Dz (F := pi L e) e hr hg hn fun s => rfl
 simp only [og, h, Option.bind_some]
 rcases EN e hr hg with ⟨h0, ht⟩ | ⟨hk, h0, ht⟩
 ·refine ⟨none, ht, ?_⟩
  rw [h0]; rfl
 ·refine ⟨_, ht, ?_⟩
  have hle := xl (upto e) L
  have e1 : ((((lb (upto e) L : Nat) : Int)) == (0:Int)) = false := by simp; omega
  have e2 : IntKind.i64.wrap ((((lb (upto e) L : Nat) : Int)) - (1:Int)) = ((lb (upto e) L - 1 : Nat) : Int) := pC (a := lb (upto e) L) (b := 1) (by omega) (by omega)
  rw [e1, cond_false, e2, br hk, Option.bind_some]
  rw [show tp (some L[lb (upto e) L - 1]) = (bif L[lb (upto e) L - 1].Del then { Has := false, Val := [] } else { Has := true, Val := L[lb (upto e) L - 1].Val }) from rfl]
  cases hd : L[lb (upto e) L - 1].Del with
  | true => rfl
  | false =>
   simp only [cond_false, dP]
   rw [dh (jF (by have := hv _ (List.getElem_mem hk); simp only [List.length_nil]; omega))]
   rfl
theorem Inv.EU {n : Nat} {l : List bV} {m : List aF} (h : Inv n l m) (r : Int) : (mM l r).length ≤ n := by
 rw [(vY h r).length_eq]
 have := List.length_filter_le (fun y : aF => decide (aB y.At = r)) m
 have := h.mlen
 simp only [Lm, List.length_map]; omega
theorem Inv.Ez {n : Nat} {l : List bV} {m : List aF} (h : Inv n l m) {r : Int} {v : aY} (hv : v ∈ mM l r) : vG v ∧ v.Val.length ≤ 256 ∧ U8s v.Val := by
 obtain ⟨y, hy, _, rfl⟩ := xR.1 ((vY h r).mem_iff.1 hv)
 exact (h.xg y hy).2
theorem Ce {n : Nat} {l : List bV} {m : List aF} (h : Inv n l m) (hn : n ≤ 10000) {a : Nat} (ha : isF a) (e : Int) : ∃ o, uP (mM l (aB a)) e o ∧ ea (some { rows := l }) a e = some (tp o) := by
 obtain ⟨o, h1, h2⟩ := ot e (sG h.rise h.vr (aB a)) (fun v hv => (h.Ez hv).1) (by have := h.EU (aB a); omega) (fun v hv => by have := (h.Ez hv).2.1; omega)
 have hl := h.Fg.len
 simp only [ea, pd ha, Option.bind_some, uC h.rise (show l.length ≤ 1000000 by omega)]
 cases hh : hit rk (aB a) l with
 | false =>
  have e3 : mM l (aB a) = [] := by
   unfold mM
   have : hY rk (aB a) l = none := by simp [hY, hh]
   rw [this]
  rw [e3]
  exact ⟨none, fun v hv => (by cases hv), rfl⟩
 | true =>
  obtain ⟨hk, h3, h4⟩ := jL hh
  have e3 : mM l (aB a) = l[pl rk (aB a) l].l := by unfold mM; rw [h4]
  refine ⟨o, h1, ?_⟩
  simp only [Bool.not_true, cond_false, br hk, Option.bind_some]
  rw [← e3, h2]; rfl
def BF (r e : Int) (y : aF) : Prop := aB y.At = r ∧ y.Epoch ≤ e
def wW (m : List aF) (r e : Int) (i : Nat) (k : Int) : Prop := (k = -1 ∧ ∀ j (h : j < m.length), j < i → ¬ BF r e m[j]) ∨ (∃ a, ∃ ha : a < m.length, k = (a : Int) ∧ BF r e m[a] ∧ ∀ j (h : j < m.length), j < i → BF r e m[j] → vk (ver m[j]) ≤ vk (ver m[a]))
theorem Bm {m : List aF} (hx : ∀ y ∈ m, xG y) (hn : m.length ≤ 1000000) {a : Nat} (ha : isF a) (e : Int) : ∃ k, pO m a e = some k ∧ wW m (aB a) e m.length k := by
 unfold pO
 refine nz (body := li m a e) (Inv := fun s => ∃ i : Nat, s.2 = (i : Int) ∧ i ≤ m.length ∧ wW m (aB a) e i s.1) (m := fun s => (m.length - s.2).toNat) (Q := fun k => wW m (aB a) e m.length k) (fun s hs => ?_) ⟨0, rfl, Nat.zero_le _, .inl ⟨rfl, fun j _ h => by omega⟩⟩
 obtain ⟨k, z⟩ := s
 obtain ⟨i, rfl, hi, hT⟩ := hs
 by_cases hil : i < m.length
 ·have hmi := List.getElem_mem hil
  simp only [li, gZ hil, cond_true, br hil, Option.bind_some, nO (hx _ hmi).1 ha, bN (show i ≤ 4294967295 by omega)]
  have keep : ¬ BF (aB a) e m[i] → wW m (aB a) e (i + 1) k := fun hnm => by
   rcases hT with ⟨h1, h2⟩ | ⟨b, hb, h1, h2, h3⟩
   ·refine .inl ⟨h1, fun j hj hji => ?_⟩
    rcases Nat.lt_or_ge j i with h | h
    ·exact h2 j hj h
    ·have : j = i := by omega
     subst this; exact hnm
   ·refine .inr ⟨b, hb, h1, h2, fun j hj hji hm => ?_⟩
    rcases Nat.lt_or_ge j i with h | h
    ·exact h3 j hj h hm
    ·have : j = i := by omega
     subst this; exact absurd hm hnm
  have fin : ∀ k' : Int, wW m (aB a) e (i + 1) k' → ∃ s', (some (Sum.inl (k', ((i + 1 : Nat) : Int))) : Option ((Int × Int) ⊕ Int)) = some (.inl s') ∧ (∃ i : Nat, s'.2 = (i : Int) ∧ i ≤ m.length ∧ wW m (aB a) e i s'.1) ∧ (m.length - s'.2).toNat < (m.length - (i : Int)).toNat := fun k' hk' => ⟨_, rfl, ⟨i + 1, rfl, by omega, hk'⟩, by show ((m.length : Int) - ((i + 1 : Nat) : Int)).toNat < _; omega⟩
  left
  by_cases h1 : aB m[i].At = aB a
  ·by_cases h2 : m[i].Epoch ≤ e
   ·have hmat : BF (aB a) e m[i] := ⟨h1, h2⟩
    rcases hT with ⟨h3, h4⟩ | ⟨b, hb, h3, h4, h5⟩
    ·subst h3
     have := fin (i : Int) (.inr ⟨i, hil, rfl, hmat, fun j hj hji hm => by
      rcases Nat.lt_or_ge j i with h | h
      ·exact absurd hm (h4 j hj h)
      ·have : j = i := by omega
       subst this; exact Int.le_refl _⟩)
     simpa [h1, h2] using this
    ·subst h3
     have hg1 := (hx _ (List.getElem_mem hb)).2.1
     have hg2 := (hx _ hmi).2.1
     have hb0 : ¬ ((b : Int) < 0) := by omega
     have hlt := AE hg1 hg2
     by_cases h6 : vk (ver m[b]) < vk (ver m[i])
     ·have := fin (i : Int) (.inr ⟨i, hil, rfl, hmat, fun j hj hji hm => by
       rcases Nat.lt_or_ge j i with h | h
       ·have := h5 j hj h hm; omega
       ·have : j = i := by omega
        subst this; exact Int.le_refl _⟩)
      have h7 : m[b].Epoch < m[i].Epoch ∨ (m[b].Epoch = m[i].Epoch ∧ m[b].Index < m[i].Index) := hlt.1 h6
      by_cases h8 : m[b].Epoch < m[i].Epoch
      ·simpa [h1, h2, hb0, br hb, h8] using this
      ·have h9 := h7.resolve_left h8
       simpa [h1, h2, hb0, br hb, h9.1, h9.2] using this
     ·have := fin (b : Int) (.inr ⟨b, hb, rfl, h4, fun j hj hji hm => by
       rcases Nat.lt_or_ge j i with h | h
       ·exact h5 j hj h hm
       ·have : j = i := by omega
        subst this; omega⟩)
      have h7 : ¬ (m[b].Epoch < m[i].Epoch ∨ (m[b].Epoch = m[i].Epoch ∧ m[b].Index < m[i].Index)) := fun h => h6 (hlt.2 h)
      have h8 : ¬ m[b].Epoch < m[i].Epoch := fun h => h7 (.inl h)
      by_cases h9 : m[b].Epoch = m[i].Epoch
      ·have h10 : ¬ m[b].Index < m[i].Index := fun h => h7 (.inr ⟨h9, h⟩)
       simpa [h1, h2, hb0, br hb, h9, h10] using this
      ·have h11 : (m[b].Epoch == m[i].Epoch) = false := by simpa using h9
       simpa [h1, h2, hb0, br hb, h8, h11] using this
   ·have := fin k (keep fun h => h2 h.2)
    simpa [h1, h2] using this
  ·have := fin k (keep fun h => h1 h.1)
   simpa [h1] using this
 ·have e1 : i = m.length := by omega
  subst e1
  refine .inr ⟨k, ?_, hT⟩
  simp [li, bB]
theorem Br {m : List aF} (hx : ∀ y ∈ m, xG y) (hn : m.length ≤ 1000000) {a : Nat} (ha : isF a) (e : Int) : ∃ o, uP (Lm (aB a) m) e o ∧ iS m a e = some (tp o) := by
 obtain ⟨k, h1, h2⟩ := Bm hx hn ha e
 simp only [iS, h1, Option.bind_some]
 rcases h2 with ⟨rfl, h3⟩ | ⟨b, hb, rfl, h4, h5⟩
 ·refine ⟨none, fun v hv => ?_, rfl⟩
  obtain ⟨y, hy, h6, rfl⟩ := xR.1 hv
  obtain ⟨j, hj, rfl⟩ := List.mem_iff_getElem.1 hy
  have := h3 j hj hj
  rcases Int.lt_or_le e (ver m[j]).Epoch with h | h
  ·exact h
  ·exact absurd ⟨h6, h⟩ this
 ·refine ⟨some (ver m[b]), ⟨xR.2 ⟨_, List.getElem_mem hb, h4.1, rfl⟩, h4.2, fun w hw hwe => ?_⟩, ?_⟩
  ·obtain ⟨y, hy, h6, rfl⟩ := xR.1 hw
   obtain ⟨j, hj, rfl⟩ := List.mem_iff_getElem.1 hy
   exact h5 j hj hj ⟨h6, hwe⟩
  ·have hb0 : decide ((b : Int) < 0) = false := by simp
   rw [hb0, cond_false, br hb, Option.bind_some]
   rw [show tp (some (ver m[b])) = (bif m[b].Del then { Has := false, Val := [] } else { Has := true, Val := m[b].Val }) from rfl]
   cases m[b].Del <;> rfl
theorem qx {n : Nat} {l : List bV} {m : List aF} (h : Inv n l m) (hn : n ≤ 10000) {a : Nat} (ha : isF a) (e : Int) : ∃ o, uP (mM l (aB a)) e o ∧ ea (some { rows := l }) a e = some (tp o) ∧ iS m a e = some (tp o) := by
 obtain ⟨o, h1, h2⟩ := Ce h hn ha e
 obtain ⟨p, h3, h4⟩ := Br h.xg (by have := h.mlen; omega) ha e
 have : o = p := Af (sG h.rise h.vr _) (vY h _) h1 h3
 subst this
 exact ⟨o, h1, h2, h4⟩
theorem Ag (g : ct) : gj [g] [g] = some true := by
 have h := dC (body := fl [g] [g]) (fun i => (i : Int)) 1 true (fun i hi => by
  have : i = 0 := by omega
  subst this
  simp [fl, df, nZ, bN (i := 0)]
  rfl) (by simp [fl, bB])
 have e : ((([g] : List ct).length : Int) != (([g] : List ct).length : Int)) = false := by simp
 unfold gj
 rw [e, cond_false]
 exact h
end Go.Proofs.YtgnkkopjkgdieaaGreat

end
section
set_option linter.unusedVariables false
set_option linter.unusedSimpArgs false
set_option maxRecDepth 100000
namespace Go.Proofs.YtgnkkopjkgdieaaGreat
open Go Go.V
theorem Dy {A : List Nat} {k : Nat} {x : Nat} (hk : k ≤ A.length) : lZ A (0:Int) (k : Int) ++ [x] ++ lZ A (k : Int) (((A.length : Nat) : Int)) = A.take k ++ x :: A.drop k := by
 unfold lZ
 rw [Int.toNat_natCast, Int.toNat_natCast, List.take_length, show (0:Int).toNat = 0 from rfl, List.drop_zero, List.append_assoc]
 rfl
theorem yO {α : Type} {A : List α} {i j : Nat} (h1 : i ≤ j) (h2 : j ≤ A.length) : fits A (i : Int) (j : Int) = true := by
 unfold fits
 simp
 omega
theorem FM {A : List Nat} {m : List aF} {i : Nat} (hi : i < m.length) (hA : ∀ a ∈ A, isF a) (hx : isF m[i].At) (hr : fN aB A) (hn : A.length ≤ 1000000) : bA (kP A m (i : Int)) (0:Int) = some ((pl aB (aB m[i].At) A : Nat) : Int) := by
 have hle := tT aB (aB m[i].At) A
 refine dC (fun j => (j : Int)) (pl aB (aB m[i].At) A) _ (fun j hj => ?_) ?_
 ·have hjA : j < A.length := by omega
  have h1 : aB A[j] < aB m[i].At := AG hjA hj
  simp only [kP, gZ hjA, cond_true, br hjA, br hi, Option.bind_some, oE (hA _ (List.getElem_mem hjA)) hx, h1, decide_true, bN (show j ≤ 4294967295 by omega)]
 ·by_cases hk : pl aB (aB m[i].At) A < A.length
  ·have h1 := AA (s := aB m[i].At) hr hk (Nat.le_refl _)
   have h2 : ¬ aB A[pl aB (aB m[i].At) A] < aB m[i].At := by omega
   simp only [kP, gZ hk, cond_true, br hk, br hi, Option.bind_some, oE (hA _ (List.getElem_mem hk)) hx, h2, decide_false, cond_false, bB, Option.map_some]
  ·have e : decide (((pl aB (aB m[i].At) A : Nat) : Int) < ((A.length : Nat) : Int)) = false := by simp; omega
   simp only [kP, e, cond_false, bB, Option.map_some]
def wq (A : List Nat) (x : Nat) : List Nat := bif hit aB (aB x) A then A else kz aB A x
theorem FN {A : List Nat} {m : List aF} {i : Nat} (hi : i < m.length) (hA : ∀ a ∈ A, isF a) (hx : isF m[i].At) (hn : A.length ≤ 1000000) (hi2 : i ≤ 1000000) :
  kD A m (i : Int) ((pl aB (aB m[i].At) A : Nat) : Int) = some (Sum.inl (wq A m[i].At, ((i + 1 : Nat) : Int))) := by
 have hle := tT aB (aB m[i].At) A
 have hins : (gd (fits A (0:Int) ((pl aB (aB m[i].At) A : Nat) : Int)) (gd (room ([] : List Nat) (lZ A (0:Int) ((pl aB (aB m[i].At) A : Nat) : Int))) (gd (room (lZ A (0:Int) ((pl aB (aB m[i].At) A : Nat) : Int)) ([m[i].At])) (gd (fits A ((pl aB (aB m[i].At) A : Nat) : Int) (((A).length : Nat) : Int)) (gd (room ((lZ A (0:Int) ((pl aB (aB m[i].At) A : Nat) : Int)) ++ ([m[i].At])) (lZ A ((pl aB (aB m[i].At) A : Nat) : Int) (((A).length : Nat) : Int))) (some (Sum.inl ((((lZ A (0:Int) ((pl aB (aB m[i].At) A : Nat) : Int)) ++ ([m[i].At])) ++ (lZ A ((pl aB (aB m[i].At) A : Nat) : Int) (((A).length : Nat) : Int))), ((i + 1 : Nat) : Int)))))))) : Option ((List Nat × Int) ⊕ List Nat)) = some (Sum.inl (A.take (pl aB (aB m[i].At) A) ++ m[i].At :: A.drop (pl aB (aB m[i].At) A), ((i + 1 : Nat) : Int))) := by
  have l1 : (lZ A (0:Int) ((pl aB (aB m[i].At) A : Nat) : Int)).length ≤ 1000000 := by unfold lZ; simp only [List.length_drop, List.length_take]; omega
  have l2 : (lZ A ((pl aB (aB m[i].At) A : Nat) : Int) ((A.length : Nat) : Int)).length ≤ 1000000 := by unfold lZ; simp only [List.length_drop, List.length_take]; omega
  rw [dh (show fits A (0:Int) _ = true from yO (i := 0) (Nat.zero_le _) hle), dh (jF (by simp only [List.length_nil]; omega)), dh (jF (by simp only [List.length_singleton]; omega)), dh (yO hle (Nat.le_refl _)), dh (jF (by simp only [List.length_append, List.length_singleton]; omega)), Dy hle]
 unfold wq kz pr
 cases hh : hit aB (aB m[i].At) A with
 | true =>
  obtain ⟨hk, h1, h2⟩ := jL hh
  simp only [kD, gZ hk, cond_true, br hk, br hi, Option.bind_some, nO (hA _ (List.getElem_mem hk)) hx, h1, decide_true, bN (show i ≤ 4294967295 by omega)]
 | false =>
  simp only [cond_false]
  by_cases hk : pl aB (aB m[i].At) A < A.length
  ·have h1 : ¬ aB A[pl aB (aB m[i].At) A] = aB m[i].At := fun e => by
    have : hit aB (aB m[i].At) A = true := by unfold hit; rw [List.getElem?_eq_getElem hk]; simpa using e
    rw [this] at hh; cases hh
   simp only [kD, gZ hk, cond_true, br hk, br hi, Option.bind_some, nO (hA _ (List.getElem_mem hk)) hx, h1, decide_false, cond_false, bN (show i ≤ 4294967295 by omega)]
   exact hins
  ·have e : decide (((pl aB (aB m[i].At) A : Nat) : Int) < ((A.length : Nat) : Int)) = false := by simp; omega
   simp only [kD, e, cond_false, br hi, Option.bind_some, bN (show i ≤ 4294967295 by omega)]
   exact hins
theorem AY {A : List Nat} (h : fN aB A) (x : Nat) : fN aB (wq A x) := by
 unfold wq; cases hit aB (aB x) A with
 | true => exact h
 | false => exact pt h x
theorem Ck {A : List Nat} (h : fN aB A) (x : Nat) (r : Int) : (∃ a ∈ wq A x, aB a = r) ↔ (∃ a ∈ A, aB a = r) ∨ aB x = r := by
 unfold wq
 cases hh : hit aB (aB x) A with
 | true =>
  obtain ⟨hk, h1, _⟩ := jL hh
  refine ⟨.inl, fun h => h.elim id fun e => ⟨_, List.getElem_mem hk, h1.trans e⟩⟩
 | false =>
  simp only [cond_false]
  constructor
  ·rintro ⟨a, ha, e⟩
   rcases (kR h x a).1 ha with rfl | ⟨h1, _⟩
   ·exact .inr e
   ·exact .inl ⟨a, h1, e⟩
  ·rintro (⟨a, ha, e⟩ | e)
   ·by_cases h2 : aB a = aB x
    ·exact ⟨x, (kR h x x).2 (.inl rfl), h2 ▸ e⟩
    ·exact ⟨a, (kR h x a).2 (.inr ⟨ha, h2⟩), e⟩
   ·exact ⟨x, (kR h x x).2 (.inl rfl), e⟩
theorem Fh {A : List Nat} (h : fN aB A) {x : Nat} (hA : ∀ a ∈ A, isF a) (hx : isF x) : ∀ a ∈ wq A x, isF a := by
 unfold wq
 cases hit aB (aB x) A with
 | true => exact hA
 | false =>
  intro a ha
  rcases (kR h x a).1 ha with rfl | ⟨h1, _⟩
  ·exact hx
  ·exact hA a h1
theorem Cs {A : List Nat} (h : fN aB A) (x : Nat) : (wq A x).length ≤ A.length + 1 := by
 unfold wq
 cases hit aB (aB x) A with
 | true => simp only [cond_true]; omega
 | false => exact se h x
structure Ats (m : List aF) (A : List Nat) : Prop where
 rise : fN aB A
 f : ∀ a ∈ A, isF a
 mem : ∀ r, (∃ a ∈ A, aB a = r) ↔ ∃ y ∈ m, aB y.At = r
 len : A.length ≤ m.length
theorem Ff {m : List aF} (hx : ∀ y ∈ m, isF y.At) (hn : m.length ≤ 1000000) : ∃ A, qC m = some A ∧ Ats m A := by
 unfold qC
 refine nz (body := mm m) (Inv := fun s => ∃ i : Nat, s.2 = (i : Int) ∧ i ≤ m.length ∧ Ats (m.take i) s.1) (m := fun s => (m.length - s.2).toNat) (Q := fun A => Ats m A) (fun s hs => ?_) ⟨0, rfl, Nat.zero_le _, ⟨pJ, fun a h => (by cases h), fun r => (by simp), by simp⟩⟩
 obtain ⟨A, z⟩ := s
 obtain ⟨i, rfl, hi, hA⟩ := hs
 dsimp only at hA
 have hAl := hA.len
 rw [List.length_take] at hAl
 by_cases hil : i < m.length
 ·have hmi := List.getElem_mem hil
  left
  simp only [mm, gZ hil, cond_true, FM hil hA.f (hx _ hmi) hA.rise (by omega), Option.bind_some, FN hil hA.f (hx _ hmi) (by omega) (by omega)]
  refine ⟨_, rfl, ⟨i + 1, rfl, by omega, ⟨AY hA.rise _, Fh hA.rise hA.f (hx _ hmi), fun r => ?_, ?_⟩⟩, by dsimp only; omega⟩
  ·rw [Ck hA.rise, hA.mem, List.take_succ_eq_append_getElem hil]
   simp only [List.mem_append, List.mem_singleton]
   constructor
   ·rintro (⟨y, hy, e⟩ | e)
    ·exact ⟨y, .inl hy, e⟩
    ·exact ⟨_, .inr rfl, e⟩
   ·rintro ⟨y, hy | rfl, e⟩
    ·exact .inl ⟨y, hy, e⟩
    ·exact .inr e
  ·have := Cs hA.rise m[i].At
   dsimp only
   rw [List.length_take]; omega
 ·have e1 : i = m.length := by omega
  subst e1
  right
  rw [List.take_length] at hA
  exact ⟨A, by simp [mm, bB], hA⟩
theorem Dn {n : Nat} {l : List bV} {m : List aF} {A : List Nat} (h : Inv n l m) (hA : Ats m A) : l.map rk = A.map aB := by
 refine yS (k := id) (List.pairwise_map.2 h.rise) (List.pairwise_map.2 hA.rise) fun r => ?_
 rw [List.mem_map, List.mem_map]
 have : (∃ a ∈ A, aB a = r) ↔ ∃ y ∈ m, aB y.At = r := hA.mem r
 rw [this]
 constructor
 ·rintro ⟨x, hx, e⟩
  obtain ⟨v, hv⟩ := List.exists_mem_of_ne_nil _ (h.ne x hx)
  obtain ⟨y, hy, e2⟩ := List.mem_map.1 (h.pm.mem_iff.1 (ub.2 ⟨x, hx, rfl, hv⟩ : (x.rank, v) ∈ lF l))
  exact ⟨y, hy, (congrArg Prod.fst e2).trans e⟩
 ·rintro ⟨y, hy, e⟩
  obtain ⟨x, hx, h1, _⟩ := ub.1 (h.pm.mem_iff.2 (List.mem_map.2 ⟨y, hy, rfl⟩))
  exact ⟨x, hx, h1.trans e⟩
theorem DO : Inv 0 [] [] := ⟨pJ, fun x h => (by cases h), fun x h => (by cases h), List.Perm.refl _, fun x h => (by cases h), fun x h => (by cases h), by simp, by simp⟩
theorem Inv.up {n k : Nat} {l : List bV} {m : List aF} (h : Inv n l m) (hk : n ≤ k) : Inv k l m := ⟨h.rise, h.ne, h.vr, h.pm, h.xg, h.cl, h.nd, Nat.le_trans h.mlen hk⟩
end Go.Proofs.YtgnkkopjkgdieaaGreat

end
section
set_option linter.unusedVariables false
set_option linter.unusedSimpArgs false
set_option maxRecDepth 100000
namespace Go.Proofs.YtgnkkopjkgdieaaGreat
open Go Go.V
theorem xj {q : Nat → Bool} {i n : Nat} (h : i ≤ n) : ∃ t, (List.range n).filter q = (List.range i).filter q ++ t ∧ ((∀ j, i ≤ j → j < n → q j = false) → t = []) := by
 obtain ⟨k, rfl⟩ := Nat.exists_eq_add_of_le h
 refine ⟨((List.range k).map (i + ·)).filter q, by rw [List.range_add, List.filter_append], fun hq => List.filter_eq_nil_iff.2 fun j hj => ?_⟩
 obtain ⟨x, hx, rfl⟩ := List.mem_map.1 hj
 rw [hq (i + x) (by omega) (by have := List.mem_range.1 hx; omega)]
 simp
theorem wJ {β : Type} {body : List β × Int → Option ((List β × Int) ⊕ List β)} (n p M : Nat) (q : Nat → Bool) (f : Nat → β) (stp : Nat → Bool) (hp : p ≤ n) (hq0 : ∀ j, j < p → q j = false)
  (h1 : ∀ (i : Nat), i < n → p ≤ i → ∀ out : List β, out.length ≤ i → body (out, (i : Int)) = some (bif stp i then .inr out else bif decide (out.length < M) then .inl (bif q i then out ++ [f i] else out, ((i + 1 : Nat) : Int)) else .inr out))
  (hs : ∀ i, i < n → stp i = true → ∀ j, i ≤ j → j < n → q j = false)
  (h2 : ∀ out : List β, body (out, (n : Int)) = some (.inr out)) : bA body ([], (p : Int)) = some ((((List.range n).filter q).take M).map f) := by
 obtain ⟨r, h3, h4⟩ := nz (body := body) (Inv := fun s => ∃ i : Nat, s.2 = (i : Int) ∧ i ≤ n ∧ p ≤ i ∧ s.1 = (((List.range i).filter q).take M).map f) (m := fun s => (n - s.2).toNat) (Q := fun r => r = (((List.range n).filter q).take M).map f) (fun s hs' => by
  obtain ⟨out, z⟩ := s
  obtain ⟨i, rfl, hi, hpi, ho⟩ := hs'
  dsimp only at ho
  subst ho
  have hlen : ((((List.range i).filter q).take M).map f).length ≤ i := by
   have := List.length_filter_le q (List.range i)
   rw [List.length_range] at this
   rw [List.length_map, List.length_take]; omega
  by_cases hin : i < n
  ·rw [h1 i hin hpi _ hlen]
   cases hst : stp i with
   | true =>
    right
    obtain ⟨t, ht, ht0⟩ := xj (q := q) hi
    exact ⟨_, rfl, by rw [ht, ht0 (hs i hin hst), List.append_nil]⟩
   | false =>
    by_cases hM : ((((List.range i).filter q).take M).map f).length < M
    ·left
     rw [cond_false, decide_eq_true hM, cond_true]
     refine ⟨_, rfl, ⟨i + 1, rfl, by omega, by omega, ?_⟩, by dsimp only; omega⟩
     have hl : ((List.range i).filter q).length < M := by
      rw [List.length_map, List.length_take] at hM; omega
     dsimp only
     rw [List.range_succ, List.filter_append, List.take_of_length_le (show ((List.range i).filter q).length ≤ M by omega)]
     cases hqi : q i with
     | true =>
      have e : [i].filter q = [i] := by simp [hqi]
      rw [e, List.take_of_length_le (by rw [List.length_append, List.length_singleton]; omega), List.map_append]; rfl
     | false =>
      have e : [i].filter q = [] := by simp [hqi]
      rw [e, List.append_nil, List.take_of_length_le (by omega)]; rfl
    ·right
     rw [cond_false, decide_eq_false hM, cond_false]
     refine ⟨_, rfl, ?_⟩
     obtain ⟨t, ht, _⟩ := xj (q := q) hi
     rw [ht, List.take_append_of_le_length]
     rw [List.length_map, List.length_take] at hM; omega
  ·have e : i = n := by omega
   subst e
   exact .inr ⟨_, h2 _, rfl⟩) (s := (([] : List β), (p : Int))) ⟨p, rfl, hp, Nat.le_refl _, by
    have : (List.range p).filter q = [] := List.filter_eq_nil_iff.2 fun j hj => by rw [hq0 j (List.mem_range.1 hj)]; simp
    rw [this]; simp⟩
 rw [h3, h4]
theorem Dc {l : List bV} (hr : fN rk l) {x : bV} (hx : x ∈ l) : mM l x.rank = x.l := by
 unfold mM
 rw [show hY rk x.rank l = some x from (kt hr).2 ⟨hx, rfl⟩]
theorem zZ {x : Nat} (hx : isF x) : ∃ f, jJ (aB x) = some f ∧ isF f ∧ aB f = aB x := by
 cases hn : mK x with
 | false => exact ⟨x, wX hx hn, hx, rfl⟩
 | true =>
  have e : aB x = ((18446744073709551615 : Nat) : Int) := by unfold aB; rw [hn]; rfl
  refine ⟨9223372036854775807, ?_, by unfold isF; decide, ?_⟩
  ·rw [e, back_eq (by decide)]; rfl
  ·rw [e]; decide
theorem AZ {a lo hi : Nat} (ha : isF a) (h1 : isF lo) (h2 : isF hi) : jB a lo hi = some (decide (aB lo ≤ aB a) && decide (aB a ≤ aB hi)) := by
 unfold jB
 rw [oE ha h1, oE h2 ha]
 by_cases c1 : aB a < aB lo
 ·have c2 : ¬ aB lo ≤ aB a := by omega
  simp [c1, c2]
 ·have c2 : aB lo ≤ aB a := by omega
  by_cases c3 : aB hi < aB a
  ·have c4 : ¬ aB a ≤ aB hi := by omega
   simp [c1, c2, c3, c4]
  ·have c4 : aB a ≤ aB hi := by omega
   simp [c1, c2, c3, c4]
theorem zf {a b : List bQ} (hl : a.length = b.length) (hn : a.length ≤ 1000000) (h : ∀ i (ha : i < a.length) (hb : i < b.length), isF a[i].At ∧ isF b[i].At ∧ aB a[i].At = aB b[i].At ∧ a[i].Val = b[i].Val) : gF a b = some true := by
 have e : (((a.length : Nat) : Int) != ((b.length : Nat) : Int)) = false := by simp [hl]
 unfold gF
 rw [e, cond_false]
 refine dC (fun i => (i : Int)) a.length true (fun i hi => ?_) (by simp [fE, bB])
 have hb : i < b.length := by omega
 obtain ⟨f1, f2, f3, f4⟩ := h i hi hb
 simp only [fE, gZ hi, cond_true, br hi, br hb, Option.bind_some, nO f1 f2, f3, decide_true, Bool.not_true, cond_false, f4, nZ, bN (show i ≤ 4294967295 by omega)]
noncomputable def xW (m : List aF) (A : List Nat) (e : Int) (i : Nat) : ct := (iS m ((A[i]?).getD 0) e).getD { Has := false, Val := [] }
theorem uB {n : Nat} {l : List bV} {m : List aF} (h : Inv n l m) (hn : n ≤ 10000) {lo hi : Nat} (hlo : isF lo) (hhi : isF hi) (e most : Int) :
  ∃ P Q, fx (some { rows := l }) lo hi e most = some P ∧ lO m lo hi e most = some Q ∧ gF P Q = some true := by
 have hm := h.mlen
 have g := h.Fg
 have hln := g.len
 obtain ⟨A, hA, gA⟩ := Ff (fun y hy => (h.xg y hy).1) (show m.length ≤ 1000000 by omega)
 have hra := Dn h gA
 have hll : l.length = A.length := by have := congrArg List.length hra; simpa using this
 have hrank : ∀ i (h1 : i < l.length) (h2 : i < A.length), l[i].rank = aB A[i] := fun i h1 h2 => by
  have := congrArg (fun t => t[i]?) hra
  simp only [List.getElem?_map, List.getElem?_eq_getElem h1, List.getElem?_eq_getElem h2, Option.map_some] at this
  exact some_inj this
 have hgot : ∀ i (h1 : i < l.length) (h2 : i < A.length), iS m A[i] e = some (xW m A e i) ∧ og l[i].l e = some (xW m A e i) := fun i h1 h2 => by
  have hF := gA.f _ (List.getElem_mem h2)
  obtain ⟨o, q1, _, q3⟩ := qx h hn hF e
  have hm1 := List.getElem_mem h1
  have hrow : mM l (aB A[i]) = l[i].l := by rw [← hrank i h1 h2]; exact Dc h.rise hm1
  rw [hrow] at q1
  obtain ⟨p, r1, r2⟩ := ot e (g.vr _ hm1) (g.vg _ hm1) (by have := g.vl _ hm1; omega) (fun v hv => by
   have := (h.Ez (r := l[i].rank) (by rw [Dc h.rise hm1]; exact hv)).2.1; omega)
  have hop : o = p := Af (g.vr _ hm1) (List.Perm.refl _) q1 r1
  subst hop
  have hgi : xW m A e i = tp o := by unfold xW; rw [List.getElem?_eq_getElem h2, Option.getD_some, q3, Option.getD_some]
  rw [hgi]; exact ⟨q3, r2⟩
 let q : Nat → Bool := fun i => (xW m A e i).Has && (decide (aB lo ≤ aB ((A[i]?).getD 0)) && decide (aB ((A[i]?).getD 0) ≤ aB hi))
 let fS : Nat → bQ := fun i => { At := (jJ (aB ((A[i]?).getD 0))).getD 0, Val := (xW m A e i).Val }
 let fR : Nat → bQ := fun i => { At := (A[i]?).getD 0, Val := (xW m A e i).Val }
 have hR : bA (ly A most m e lo hi) ([], (0:Int)) = some ((((List.range A.length).filter q).take most.toNat).map fR) := by
  refine wJ A.length 0 most.toNat q fR (fun _ => false) (Nat.zero_le _) (fun j h => by omega) (fun i hi' _ out ho => ?_) (fun i _ h => by cases h) (fun out => by simp [ly, bB])
  have hF := gA.f _ (List.getElem_mem hi')
  have e0 : (A[i]?).getD 0 = A[i] := by rw [List.getElem?_eq_getElem hi', Option.getD_some]
  have em : decide (((out.length : Nat) : Int) < most) = decide (out.length < most.toNat) := by
   rw [Bool.eq_iff_iff]; simp only [decide_eq_true_eq]; omega
  simp only [ly, gZ hi', cond_true, em, cond_false, br hi', Option.bind_some, (hgot i (by omega) hi').1, AZ hF hlo hhi, bN (show i ≤ 4294967295 by omega), q, fR, e0]
  cases decide (out.length < most.toNat) with
  | false => simp [bB]
  | true =>
   simp only [cond_true]
   cases (xW m A e i).Has with
   | false => simp
   | true =>
    simp only [cond_true, Bool.true_and]
    cases decide (aB lo ≤ aB A[i]) && decide (aB A[i] ≤ aB hi) with
    | false => rfl
    | true =>
     simp only [cond_true]
     rw [dh (fe (by omega))]
 have hS : bA (gU { rows := l } hi most e) ([], ((pl rk (aB lo) l : Nat) : Int)) = some ((((List.range A.length).filter q).take most.toNat).map fS) := by
  refine wJ A.length (pl rk (aB lo) l) most.toNat q fS (fun i => !(decide (aB ((A[i]?).getD 0) ≤ aB hi))) (by rw [← hll]; exact tT _ _ _) (fun j hj => ?_) (fun i hi' hpi out ho => ?_) (fun i hi' hst j hij hj => ?_) (fun out => by simp [gU, bB, hll])
  ·have hjl : j < l.length := Nat.lt_of_lt_of_le hj (tT _ _ _)
   have h1 : rk l[j] < aB lo := AG hjl hj
   have e0 : (A[j]?).getD 0 = A[j]'(by omega) := by rw [List.getElem?_eq_getElem (by omega), Option.getD_some]
   have h2 : ¬ aB lo ≤ aB (A[j]'(by omega)) := by rw [← hrank j hjl (by omega)]; exact Int.not_le.2 h1
   simp only [q, e0, decide_eq_false h2, Bool.false_and, Bool.and_false]
  ·have hil : i < l.length := by omega
   have hF := gA.f _ (List.getElem_mem hi')
   have e0 : (A[i]?).getD 0 = A[i] := by rw [List.getElem?_eq_getElem hi', Option.getD_some]
   have em : decide (((out.length : Nat) : Int) < most) = decide (out.length < most.toNat) := by
    rw [Bool.eq_iff_iff]; simp only [decide_eq_true_eq]; omega
   obtain ⟨f, b1, b2, b3⟩ := zZ hF
   simp only [gU, gZ hil, cond_true, em, br hil, Option.bind_some, pd hhi, hrank i hil hi', (hgot i hil hi').2, b1, bN (show i ≤ 4294967295 by omega), q, fS, e0, Option.getD_some]
   have h1 : aB lo ≤ aB A[i] := by rw [← hrank i hil hi']; exact AA (s := aB lo) h.rise hil hpi
   by_cases h2 : aB A[i] ≤ aB hi
   ·simp only [decide_eq_true h1, decide_eq_true h2, cond_true, Bool.not_true, cond_false, Bool.and_true]
    cases decide (out.length < most.toNat) with
    | false => simp [bB]
    | true =>
     simp only [cond_true]
     cases (xW m A e i).Has with
     | false => simp
     | true =>
      simp only [cond_true]
      rw [dh (fe (by omega))]
   ·simp only [decide_eq_false h2, cond_false, Bool.not_false, cond_true, bB, Option.map_some]
  ·have e0 : (A[i]?).getD 0 = A[i] := by rw [List.getElem?_eq_getElem hi', Option.getD_some]
   have e1 : (A[j]?).getD 0 = A[j] := by rw [List.getElem?_eq_getElem hj, Option.getD_some]
   rw [e0] at hst
   have h2 : ¬ aB A[i] ≤ aB hi := by simpa using hst
   have h3 : ¬ aB A[j] ≤ aB hi := by
    rcases Nat.eq_or_lt_of_le hij with hq | hq
    ·subst hq; exact h2
    ·have := gA.rise.lt hi' hj hq; omega
   simp only [q, e1, decide_eq_false h3, Bool.and_false]
 have hlen : (((List.range A.length).filter q).take most.toNat).length ≤ 1000000 := by
  have := List.length_filter_le q (List.range A.length)
  rw [List.length_range] at this
  have := gA.len
  rw [List.length_take]; omega
 refine ⟨_, _, ?_, ?_, zf (a := (((List.range A.length).filter q).take most.toNat).map fS) (b := (((List.range A.length).filter q).take most.toNat).map fR) (by rw [List.length_map, List.length_map]) (by rw [List.length_map]; exact hlen) fun i ha hb => ?_⟩
 ·simp only [fx, pd hlo, Option.bind_some, uC h.rise (show l.length ≤ 1000000 by omega), hS]
 ·simp only [lO, hA, Option.bind_some, hR]
 ·rw [List.getElem_map, List.getElem_map]
  rw [List.length_map] at ha
  have hmem := List.getElem_mem ha
  generalize (((List.range A.length).filter q).take most.toNat)[i] = j at hmem ⊢
  have hj : j < A.length := List.mem_range.1 (List.mem_filter.1 (List.mem_of_mem_take hmem)).1
  have hF := gA.f _ (List.getElem_mem hj)
  obtain ⟨f, b1, b2, b3⟩ := zZ hF
  have e1 : (A[j]?).getD 0 = A[j] := by rw [List.getElem?_eq_getElem hj, Option.getD_some]
  simp only [fS, fR, e1, b1, Option.getD_some]
  exact ⟨b2, hF, b3, trivial⟩
end Go.Proofs.YtgnkkopjkgdieaaGreat

end
section
set_option linter.unusedVariables false
set_option linter.unusedSimpArgs false
set_option maxRecDepth 100000
namespace Go.Proofs.YtgnkkopjkgdieaaGreat
open Go Go.V
def fj (l : List aQ) : Prop := l.Pairwise fun a b => a.session < b.session
def uw (s : Int) (x : aQ) : Bool := decide (x.session < s)
theorem fj.lt {l : List aQ} (h : fj l) {a b : Nat} (ha : a < l.length) (hb : b < l.length) (hab : a < b) : l[a].session < l[b].session := List.pairwise_iff_getElem.1 h a b ha hb hab
theorem fj.ahd {l : List aQ} (h : fj l) (s : Int) : Ahd (uw s) l := fun a b ha hb hab hp => by
 have := h.lt ha hb hab
 simp only [uw, decide_eq_true_eq] at hp ⊢
 omega
theorem wY (a b : Int) : dB a b = some (if a < b then -1 else if a > b then 1 else 0) := by
 have h1 : (a != a) = false := by simp
 have h2 : (b != b) = false := by simp
 simp only [dB, iX, Option.bind_some, h1, h2, cond_false]
 by_cases h : a < b
 ·simp [h]
 ·by_cases h' : a > b
  ·simp [h, h']
  ·simp [h, h']
def gH (s : Int) (l : List aQ) : Nat := lb (uw s) l
def qc (s : Int) (l : List aQ) : Bool := match l[gH s l]? with | some x => x.session == s | none => false
theorem uD {l : List aQ} (h : fj l) (hn : l.length ≤ 1000000) (s : Int) : eR (some { l := l }) s = some (((gH s l : Nat) : Int), qc s l) := by
 have hs : bA (fp { l := l } s) (((l.length : Nat) : Int), (0:Int)) = some ((lb (uw s) l : Nat) : Int) := by
  refine pY (R := Int) l (uw s) (by omega) (h.ahd s) (fun i j k hk hij hke hj => ?_) (fun i j hij => ?_)
  ·have e1 : decide ((i : Int) < (j : Int)) = true := by simpa using hij
   have e2 := tI (i := i) (j := j) (by omega)
   rw [← hke] at e2
   simp only [fp, e1, cond_true, e2, br hk, Option.bind_some, fL, wY]
   have e3 : IntKind.i64.wrap ((k : Int) + (1:Int)) = ((k + 1 : Nat) : Int) := wrap_add (a := k) (b := 1) (by omega)
   by_cases hl : l[k].session < s
   ·simp [uw, hl, e3]
   ·have : ¬ (if l[k].session > s then (1:Int) else 0) < 0 := by split <;> omega
    simp [uw, hl, this]
  ·have e1 : decide ((i : Int) < (j : Int)) = false := by simpa using hij
   simp only [fp, e1, cond_false, bB, Option.map_some]
 simp only [eR, hs, Option.bind_some, jq]
 rw [show lb (uw s) l = gH s l from rfl]
 unfold qc
 by_cases hk : gH s l < l.length
 ·have e1 : decide (((gH s l : Nat) : Int) < (l.length : Int)) = true := by simpa using hk
  rw [e1, cond_true, br hk, Option.bind_some]
  simp only [fL, wY, Option.bind_some, List.getElem?_eq_getElem hk]
  by_cases h1 : l[gH s l].session < s
  ·have h2 : ¬ l[gH s l].session = s := by omega
   simp [h1, h2]
  ·by_cases h2 : l[gH s l].session > s
   ·have h3 : ¬ l[gH s l].session = s := by omega
    simp [h1, h2, h3]
   ·have h3 : l[gH s l].session = s := by omega
    simp [h1, h2, h3]
 ·have e1 : decide (((gH s l : Nat) : Int) < (l.length : Int)) = false := by simpa using hk
  rw [e1, cond_false, List.getElem?_eq_none (by omega)]
  rfl
theorem Ei (s : Int) (l : List aQ) : gH s l ≤ l.length := xl _ _
theorem As {s : Int} {l : List aQ} {a : Nat} (h : a < l.length) (hp : a < gH s l) : l[a].session < s := by
 have := BZ (p := uw s) (l := l) hp
 simpa [uw] using this
theorem Al {s : Int} {l : List aQ} (hr : fj l) {a : Nat} (h : a < l.length) (hp : gH s l ≤ a) : s ≤ l[a].session := by
 have hpl : gH s l < l.length := by omega
 have h1 : uw s l[gH s l] = false := Cf (p := uw s) (l := l) hpl
 have h2 : s ≤ l[gH s l].session := by simpa [uw] using h1
 rcases Nat.eq_or_lt_of_le hp with e | e
 ·subst e; exact h2
 ·have := hr.lt hpl h e
  omega
end Go.Proofs.YtgnkkopjkgdieaaGreat

end
section
set_option linter.unusedVariables false
set_option linter.unusedSimpArgs false
set_option maxRecDepth 100000
namespace Go.Proofs.YtgnkkopjkgdieaaGreat
open Go Go.V
theorem vj {S R : Type} (x : S) (f : S → Option R) : iL (some (Sum.inl x)) f = f x := rfl
def fB (s : Int) (l : List aQ) : Option aQ := bif qc s l then l[gH s l]? else none
theorem pn {s : Int} {l : List aQ} (h : qc s l = true) : ∃ hk : gH s l < l.length, l[gH s l].session = s ∧ fB s l = some l[gH s l] := by
 unfold fB
 rw [h, cond_true]
 unfold qc at h
 cases e : l[gH s l]? with
 | none => rw [e] at h; cases h
 | some x =>
  rw [e] at h
  obtain ⟨hk, hx⟩ := List.getElem?_eq_some_iff.1 e
  exact ⟨hk, by rw [hx]; exact eq_of_beq h, by rw [hx]⟩
theorem jN {s : Int} {l : List aQ} (hr : fj l) {x : aQ} : fB s l = some x ↔ x ∈ l ∧ x.session = s := by
 constructor
 ·intro h
  cases hh : qc s l with
  | false => simp [fB, hh] at h
  | true =>
   obtain ⟨hk, h1, h2⟩ := pn hh
   rw [h2] at h
   cases h
   exact ⟨List.getElem_mem hk, h1⟩
 ·rintro ⟨hx, hs⟩
  obtain ⟨a, ha, rfl⟩ := List.mem_iff_getElem.1 hx
  have h1 : gH s l ≤ a := by
   rcases Nat.lt_or_ge a (gH s l) with h | h
   ·have := As ha h; omega
   ·exact h
  have hk : gH s l < l.length := by omega
  have h2 : a = gH s l := by
   rcases Nat.eq_or_lt_of_le h1 with h | h
   ·exact h.symm
   ·have h3 := hr.lt hk ha h
    have h4 := Al hr hk (Nat.le_refl (gH s l))
    omega
  subst h2
  have hh : qc s l = true := by
   unfold qc
   rw [List.getElem?_eq_getElem hk]
   simpa using hs
  unfold fB
  rw [hh, cond_true, List.getElem?_eq_getElem hk]
theorem qf {s : Int} {l : List aQ} (hr : fj l) : fB s l = none ↔ ∀ x ∈ l, x.session ≠ s := by
 constructor
 ·intro h x hx hs
  rw [(jN hr).2 ⟨hx, hs⟩] at h; cases h
 ·intro h
  cases e : fB s l with
  | none => rfl
  | some x => exact absurd ((jN hr).1 e).2 (h x ((jN hr).1 e).1)
def nQ (s q : Int) (r : bw) : aQ := { session := s, seq := q, r := r }
def qK (s : Int) (l : List aQ) : Nat := bif qc s l then gH s l + 1 else gH s l
def mC (l : List aQ) (x : aQ) : List aQ := l.take (gH x.session l) ++ x :: l.drop (qK x.session l)
theorem wQ {s : Int} {l : List aQ} : ∀ x ∈ l.take (gH s l), x.session < s := by
 intro x hx
 obtain ⟨a, ha, rfl⟩ := List.mem_iff_getElem.1 hx
 rw [List.getElem_take]
 rw [List.length_take] at ha
 exact As (by omega) (by omega)
theorem uq {s : Int} {l : List aQ} (hr : fj l) : ∀ x ∈ l.drop (qK s l), s < x.session := by
 intro x hx
 obtain ⟨a, ha, rfl⟩ := List.mem_iff_getElem.1 hx
 rw [List.length_drop] at ha
 rw [List.getElem_drop]
 have hlt : qK s l + a < l.length := by omega
 cases hh : qc s l with
 | true =>
  obtain ⟨hk, h1, h2⟩ := pn hh
  have e : qK s l = gH s l + 1 := by simp [qK, hh]
  have := hr.lt hk hlt (by omega)
  omega
 | false =>
  have e : qK s l = gH s l := by simp [qK, hh]
  have h1 := Al (s := s) hr hlt (by omega)
  have h2 : l[qK s l + a].session ≠ s := fun h => by
   have : fB s l = none := by simp [fB, hh]
   exact (qf hr).1 this _ (List.getElem_mem hlt) h
  omega
theorem oF {l : List aQ} (hr : fj l) (x : aQ) : fj (mC l x) := by
 have h1 : fj (l.take (gH x.session l)) := List.Pairwise.sublist (List.take_sublist _ _) hr
 have h2 : fj (l.drop (qK x.session l)) := List.Pairwise.sublist (List.drop_sublist _ _) hr
 refine List.pairwise_append.2 ⟨h1, List.pairwise_cons.2 ⟨uq hr, h2⟩, fun a ha b hb => ?_⟩
 have h3 := wQ a ha
 rcases List.mem_cons.1 hb with rfl | hb
 ·exact h3
 ·have := uq hr b hb; omega
theorem wA {s : Int} {l : List aQ} (hr : fj l) : l.filter (fun x => x.session != s) = l.take (gH s l) ++ l.drop (qK s l) := by
 have h1 : (l.take (gH s l)).filter (fun x => x.session != s) = l.take (gH s l) := List.filter_eq_self.2 fun x hx => by have := wQ x hx; simp; omega
 have h2 : (l.drop (qK s l)).filter (fun x => x.session != s) = l.drop (qK s l) := List.filter_eq_self.2 fun x hx => by have := uq hr x hx; simp; omega
 cases hh : qc s l with
 | false =>
  have e : qK s l = gH s l := by simp [qK, hh]
  rw [e] at h2 ⊢
  conv => lhs; rw [← List.take_append_drop (gH s l) l]
  rw [List.filter_append, h1, h2]
 | true =>
  obtain ⟨hk, h3, h4⟩ := pn hh
  have e : qK s l = gH s l + 1 := by simp [qK, hh]
  rw [e] at h2 ⊢
  conv => lhs; rw [← List.take_append_drop (gH s l) l]
  rw [List.filter_append, h1, List.drop_eq_getElem_cons hk, List.filter_cons, h2]
  simp [h3]
theorem qd {l : List aQ} (hr : fj l) (x : aQ) : (mC l x).Perm (x :: l.filter (fun y => y.session != x.session)) := by
 rw [wA hr]
 exact List.perm_middle
theorem vt {l : List aQ} (hr : fj l) (x : aQ) : (mC l x).length ≤ l.length + 1 := by
 rw [(qd hr x).length_eq, List.length_cons]
 have := List.length_filter_le (fun y : aQ => y.session != x.session) l
 omega
def dG (s : Int) (l : List aQ) : Int := match fB s l with | some x => x.seq | none => 0
theorem BS {l : List aQ} (h : fj l) (hn : l.length ≤ 999999) (s q : Int) (r : bw) (hq : 0 ≤ q) : fk (some { l := l }) s q r =
  some (if q = 0 then (1, some { l := l }) else if dG s l ≥ q then (10, some { l := l }) else (0, some { l := mC l (nQ s q r) })) := by
 unfold fk
 dsimp only
 by_cases h0 : q = 0
 ·subst h0; rfl
 have e0 : (q == (0:Int)) = false := by simpa using h0
 rw [e0, cond_false, uD h (by omega), Option.bind_some, if_neg h0]
 dsimp only
 cases hh : qc s l with
 | true =>
  obtain ⟨hk, h3, h4⟩ := pn hh
  have e1 : dG s l = l[gH s l].seq := by simp [dG, h4]
  simp only [cond_true, br hk, Option.bind_some, e1]
  by_cases h5 : l[gH s l].seq ≥ q
  ·rw [if_pos h5, decide_eq_true h5]; rfl
  ·rw [if_neg h5, decide_eq_false h5, cond_false, vj]
   simp only [hQ, Bool.not_true, cond_false, Option.bind_some, hK, br hk, Int.toNat_natCast, List.set_set]
   have e2 : qK s l = gH s l + 1 := by simp [qK, hh]
   have : l.set (gH s l) (nQ s q r) = mC l (nQ s q r) := by
    unfold mC
    rw [show (nQ s q r).session = s from rfl, e2, List.set_eq_take_append_cons_drop, if_pos hk]
   rw [h3, ← this]; rfl
 | false =>
  have e1 : dG s l = 0 := by simp [dG, fB, hh]
  have h5 : ¬ (0:Int) ≥ q := by omega
  rw [e1, if_neg h5, cond_false, vj]
  have hle := Ei s l
  have hok : oY l ((gH s l : Nat) : Int) [({ session := s, seq := (0:Int), r := bK } : aQ)] = true := by
   simp only [oY, room, List.length_cons, List.length_nil]
   simp; omega
  have e2 : qK s l = gH s l := by simp [qK, hh]
  have hlt : (l.take (gH s l)).length = gH s l := by rw [List.length_take]; omega
  simp only [hQ, Bool.not_false, cond_true, dW, dh hok, Option.bind_some, hK, ins, Int.toNat_natCast, List.set_set]
  have hg : df (l.take (gH s l) ++ ([({ session := s, seq := (0:Int), r := bK } : aQ)] ++ l.drop (gH s l))) ((gH s l : Nat) : Int) = some ({ session := s, seq := (0:Int), r := bK } : aQ) := by
   rw [rR, List.getElem?_append_right (by omega), hlt, Nat.sub_self]; rfl
  rw [hg, Option.bind_some]
  have : (l.take (gH s l) ++ ([({ session := s, seq := (0:Int), r := bK } : aQ)] ++ l.drop (gH s l))).set (gH s l) (nQ s q r) = mC l (nQ s q r) := by
   unfold mC
   rw [show (nQ s q r).session = s from rfl, e2, List.set_append_right _ _ (by omega), hlt, Nat.sub_self]; rfl
  rw [← this]; rfl
theorem BN {l : List aQ} (h : fj l) (hn : l.length ≤ 1000000) (s q : Int) : fY (some { l := l }) s q =
  some (match fB s l with | none => (bK, 2) | some x => if x.seq < q then (bK, 2) else if x.seq > q then (bK, 10) else (x.r, 0)) := by
 unfold fY
 dsimp only
 rw [uD h hn, Option.bind_some]
 dsimp only
 cases hh : qc s l with
 | false => simp [fB, hh]
 | true =>
  obtain ⟨hk, h3, h4⟩ := pn hh
  simp only [h4, Bool.not_true, cond_false, br hk, Option.bind_some]
  by_cases h5 : l[gH s l].seq < q
  ·simp [h5]
  ·by_cases h6 : l[gH s l].seq > q
   ·simp [h5, h6]
   ·simp [h5, h6]
theorem wI {l : List aQ} (h : fj l) (hn : l.length ≤ 1000000) (s : Int) : eu (some { l := l }) s = some (dG s l) := by
 unfold eu
 dsimp only
 rw [uD h hn, Option.bind_some]
 dsimp only
 cases hh : qc s l with
 | false => simp [dG, fB, hh]
 | true =>
  obtain ⟨hk, h3, h4⟩ := pn hh
  simp only [dG, h4, Bool.not_true, cond_false, br hk, Option.bind_some]
theorem zK : fj [] := List.Pairwise.nil
theorem zk {l : List aQ} (h : fj l) (x : aQ) (s : Int) : fB s (mC l x) = if s = x.session then some x else fB s l := by
 have hm : ∀ y, y ∈ mC l x ↔ y = x ∨ (y ∈ l ∧ y.session ≠ x.session) := fun y => by
  rw [(qd h x).mem_iff, List.mem_cons, List.mem_filter]
  simp
 split
 ·rename_i e
  subst e
  exact (jN (oF h x)).2 ⟨(hm x).2 (.inl rfl), rfl⟩
 ·rename_i hne
  cases e : fB s l with
  | none =>
   refine (qf (oF h x)).2 fun y hy => ?_
   rcases (hm y).1 hy with rfl | ⟨h1, _⟩
   ·exact fun e => hne e.symm
   ·exact (qf h).1 e y h1
  | some y =>
   obtain ⟨h1, h2⟩ := (jN h).1 e
   exact (jN (oF h x)).2 ⟨(hm y).2 (.inr ⟨h1, by rw [h2]; exact hne⟩), h2⟩
end Go.Proofs.YtgnkkopjkgdieaaGreat

end
section
set_option linter.unusedVariables false
set_option linter.unusedSimpArgs false
set_option maxRecDepth 100000
namespace Go.Proofs.YtgnkkopjkgdieaaGreat
open Go Go.V
def okR (x : bw) : Prop := x.Gots.length ≤ 9223372036854775807 ∧ x.Scans.length ≤ 9223372036854775807 ∧ ∀ l ∈ x.Scans, l.length ≤ 9223372036854775807 ∧ ∀ p ∈ l, isF p.At
theorem ug {α : Type} {body : Int → Option (Int ⊕ Bool)} (a : List α) (hn : a.length ≤ 9223372036854775807) (h1 : ∀ (i : Nat) (hi : i < a.length), body (i : Int) = some (.inl (IntKind.i64.wrap ((i : Int) + (1:Int))))) (h2 : body (a.length : Int) = some (.inr true)) : bA body (0:Int) = some true := by
 refine dC (fun i : Nat => (i : Int)) a.length true (fun i hi => ?_) h2
 rw [h1 i hi]
 have : IntKind.i64.wrap ((i : Int) + (1:Int)) = ((i + 1 : Nat) : Int) := by rw [wrap_i64] <;> push_cast <;> omega
 rw [this]
theorem wH (a : List ct) (hn : a.length ≤ 9223372036854775807) : gj a a = some true := by
 unfold gj
 have e0 : (((a.length : Nat) : Int) != ((a.length : Nat) : Int)) = false := by simp
 rw [e0, cond_false]
 refine ug a hn (fun i hi => ?_) ?_
 ·have e1 : decide ((i : Int) < (a.length : Int)) = true := by simpa using hi
  have e2 : (a[i].Has == a[i].Has) = true := by simp
  simp only [fl, e1, cond_true, br hi, Option.bind_some, e2, nZ, Bool.not_true, cond_false]
 ·simp [fl, bB]
theorem Ee {a : Nat} (ha : isF a) : eJ a a = some true := by rw [tU ha ha, yg rfl]
theorem zh (a : List bQ) (hn : a.length ≤ 9223372036854775807) (hf : ∀ p ∈ a, isF p.At) : gF a a = some true := by
 unfold gF
 have e0 : (((a.length : Nat) : Int) != ((a.length : Nat) : Int)) = false := by simp
 rw [e0, cond_false]
 refine ug a hn (fun i hi => ?_) ?_
 ·have e1 : decide ((i : Int) < (a.length : Int)) = true := by simpa using hi
  simp only [fE, e1, cond_true, br hi, Option.bind_some, Ee (hf _ (List.getElem_mem hi)), nZ, Bool.not_true, cond_false]
 ·simp [fE, bB]
theorem tt {a : bw} (h : okR a) : eX a a = some true := by
 obtain ⟨h1, h2, h3⟩ := h
 unfold eX
 have e0 : ∀ x : Int, (x != x) = false := fun x => by simp
 rw [e0, e0, e0, e0, cond_false, cond_false, cond_false, cond_false, wH _ h1, Option.bind_some, Bool.not_true, cond_false]
 refine ug a.Scans h2 (fun i hi => ?_) ?_
 ·have e1 : decide ((i : Int) < (a.Scans.length : Int)) = true := by simpa using hi
  have g := h3 _ (List.getElem_mem hi)
  simp only [fH, e1, cond_true, br hi, Option.bind_some, zh _ g.1 g.2, Bool.not_true, cond_false]
 ·simp [fH, bB]
theorem EY {x : bw} (g : vm x) : okR x := by
 obtain ⟨_, _, _, g4, g5, g6, g7⟩ := g
 exact ⟨by omega, by omega, fun l hl => ⟨by have := (g5 l hl).1; omega, fun p hp => ((g5 l hl).2 p hp).1⟩⟩
def an (x : aQ) : cw := { Session := x.session, Seq := x.seq, R := x.r }
def Rel (l : List aQ) (m : List cw) : Prop := (l.map an).Perm m
def dfl (s : Int) : cw := { Session := s, Seq := 0, R := bK }
theorem BD (m : List cw) (hn : m.length ≤ 1000000) (s : Int) : iE m s = some ((m.find? fun a => a.Session == s).getD (dfl s)) := by
 have key : ∀ (k i : Nat), m.length - i ≤ k → i ≤ m.length → bA (jS m s) (i : Int) = some (((m.drop i).find? fun a => a.Session == s).getD (dfl s)) := by
  intro k
  induction k with
  | zero =>
   intro i hk hi
   have e : i = m.length := by omega
   subst e
   rw [eD]
   simp [jS, bB, dfl]
  | succ k ih =>
   intro i hk hi
   by_cases hlt : i < m.length
   ·have e1 : decide ((i : Int) < (m.length : Int)) = true := by simpa using hlt
    rw [eD, List.drop_eq_getElem_cons hlt]
    simp only [jS, e1, cond_true, br hlt, Option.bind_some, List.find?_cons]
    cases hb : (m[i].Session == s) with
    | true => simp [bB]
    | false =>
     have e2 : IntKind.i64.wrap ((i : Int) + (1:Int)) = ((i + 1 : Nat) : Int) := wrap_add (a := i) (b := 1) (by omega)
     simp only [cond_false, Option.bind_some, e2]
     exact ih (i + 1) (by omega) (by omega)
   ·have e : i = m.length := by omega
    subst e
    rw [eD]
    simp [jS, bB, dfl]
 have := key m.length 0 (by omega) (by omega)
 rw [List.drop_zero] at this
 exact this
theorem CZ {l : List aQ} {m : List cw} (hr : fj l) (h : Rel l m) (s : Int) : (m.find? fun a => a.Session == s) = (fB s l).map an := by
 cases e : fB s l with
 | none =>
  rw [Option.map_none, List.find?_eq_none]
  intro a ha
  obtain ⟨x, hx, rfl⟩ := List.mem_map.1 (h.mem_iff.2 ha)
  have := (qf hr).1 e x hx
  simpa [an] using this
 | some x =>
  obtain ⟨h1, h2⟩ := (jN hr).1 e
  have hx : an x ∈ m := h.mem_iff.1 (List.mem_map_of_mem h1)
  cases e2 : m.find? fun a => a.Session == s with
  | none =>
   have := List.find?_eq_none.1 e2 _ hx
   simp [an, h2] at this
  | some a =>
   have ha := List.mem_of_find?_eq_some e2
   have hs : a.Session = s := by have := List.find?_some e2; simpa using this
   obtain ⟨y, hy, rfl⟩ := List.mem_map.1 (h.mem_iff.2 ha)
   have h3 : fB s l = some y := (jN hr).2 ⟨hy, hs⟩
   rw [e] at h3
   cases h3; rfl
theorem vK {l : List aQ} {m : List cw} (hr : fj l) (h : Rel l m) (hn : l.length ≤ 1000000) (s : Int) : iE m s = some (match fB s l with | some x => an x | none => dfl s) := by
 rw [BD m (by rw [← h.length_eq, List.length_map]; exact hn) s, CZ hr h]
 cases fB s l <;> rfl
theorem Bi (m : List cw) (hn : m.length ≤ 1000000) (s : Int) (x : cw) : bA (iN m s) ([x], (0:Int)) = some (x :: m.filter (fun a => a.Session != s), (0:Int)) := by
 have key : ∀ (k i : Nat) (acc : List cw), m.length - i ≤ k → i ≤ m.length → acc.length ≤ i + 1 → bA (iN m s) (acc, (i : Int)) = some (acc ++ (m.drop i).filter (fun a => a.Session != s), (0:Int)) := by
  intro k
  induction k with
  | zero =>
   intro i acc hk hi ha
   have e : i = m.length := by omega
   subst e
   rw [eD]
   simp [iN, bB]
  | succ k ih =>
   intro i acc hk hi ha
   by_cases hlt : i < m.length
   ·have e1 : decide ((i : Int) < (m.length : Int)) = true := by simpa using hlt
    have e2 : IntKind.i64.wrap ((i : Int) + (1:Int)) = ((i + 1 : Nat) : Int) := wrap_add (a := i) (b := 1) (by omega)
    have e3 : room acc [m[i]] = true := jF (by simp only [List.length_cons, List.length_nil]; omega)
    rw [eD, List.drop_eq_getElem_cons hlt]
    simp only [iN, e1, cond_true, br hlt, Option.bind_some, List.filter_cons, e2]
    cases hb : (m[i].Session != s) with
    | true =>
     simp only [cond_true, dh e3, Option.bind_some, if_true]
     rw [ih (i + 1) (acc ++ [m[i]]) (by omega) (by omega) (by simp only [List.length_append, List.length_cons, List.length_nil]; omega)]
     simp
    | false =>
     simp only [cond_false, Option.bind_some, Bool.false_eq_true, if_false]
     exact ih (i + 1) acc (by omega) (by omega) (by omega)
   ·have e : i = m.length := by omega
    subst e
    rw [eD]
    simp [iN, bB]
 simpa using key m.length 0 [x] (by omega) (by omega) (by simp)
theorem DH {l : List aQ} {m : List cw} (hr : fj l) (h : Rel l m) (hn : l.length ≤ 999999) (s q : Int) (r : bw) : nh m s q r =
  some (if q = 0 then (m, 1) else if dG s l ≥ q then (m, 10) else (an (nQ s q r) :: m.filter (fun a => a.Session != s), 0)) := by
 unfold nh
 by_cases h0 : q = 0
 ·subst h0; rfl
 have e0 : (q == (0:Int)) = false := by simpa using h0
 have e1 : (match fB s l with | some x => an x | none => dfl s).Seq = dG s l := by unfold dG; cases fB s l <;> rfl
 rw [e0, cond_false, vK hr h (by omega), Option.bind_some, e1, if_neg h0]
 by_cases h5 : dG s l ≥ q
 ·rw [if_pos h5, decide_eq_true h5, cond_true]
 ·rw [if_neg h5, decide_eq_false h5, cond_false]
  exact Bi m (by rw [← h.length_eq, List.length_map]; omega) s _
theorem xk {l : List aQ} {m : List cw} (hr : fj l) (h : Rel l m) (x : aQ) : Rel (mC l x) (an x :: m.filter (fun a => a.Session != x.session)) := by
 unfold Rel
 refine ((qd hr x).map an).trans ?_
 rw [List.map_cons]
 refine List.Perm.cons _ ?_
 have h2 := h.filter (fun a => a.Session != x.session)
 rw [List.filter_map] at h2
 exact h2
def Cj (l : List aQ) : Prop := ∀ x ∈ l, okR x.r ∧ 0 < x.seq
theorem yI {l : List aQ} (hr : fj l) (h : Cj l) {x : aQ} (hx : okR x.r ∧ 0 < x.seq) : Cj (mC l x) := by
 intro y hy
 have := (qd hr x).mem_iff.1 hy
 rcases List.mem_cons.1 this with rfl | h2
 ·exact hx
 ·exact h y (List.mem_filter.1 h2).1
end Go.Proofs.YtgnkkopjkgdieaaGreat

end
section
set_option linter.unusedVariables false
set_option linter.unusedSimpArgs false
set_option maxRecDepth 100000
namespace Go.Proofs.YtgnkkopjkgdieaaGreat
open Go Go.V
def nm (id : Int) (x : dg) : Bool := x.r.ID == id && x.to_ == 0
def fZ (id e : Int) (x : dg) : dg := bif nm id x then { x with to_ := if (1:Int) > e then 1 else e } else x
theorem Bu {α : Type} (f : α → α) (l : List α) (i : Nat) (h : i < l.length) : ((l.take i).map f ++ l.drop i).set i (f l[i]) = (l.take (i + 1)).map f ++ l.drop (i + 1) := by
 rw [List.set_append_right _ _ (by simp; omega)]
 have e : i - ((l.take i).map f).length = 0 := by simp; omega
 rw [e, List.drop_eq_getElem_cons h, List.set_cons_zero, List.take_succ_eq_append_getElem h, List.map_append, List.append_assoc]
 rfl
theorem AS {α : Type} (f : α → α) (l : List α) (i : Nat) (h : i < l.length) : ((l.take i).map f ++ l.drop i)[i]? = some l[i] := by
 rw [List.getElem?_append_right (by simp; omega)]
 have e : i - ((l.take i).map f).length = 0 := by simp; omega
 rw [e, List.getElem?_drop, Nat.add_zero, List.getElem?_eq_getElem h]
theorem zx {α : Type} (f : α → α) (l : List α) (i : Nat) (h : i < l.length) (hf : f l[i] = l[i]) : (l.take i).map f ++ l.drop i = (l.take (i + 1)).map f ++ l.drop (i + 1) := by
 rw [List.drop_eq_getElem_cons h, List.take_succ_eq_append_getElem h, List.map_append, List.append_assoc]
 simp only [List.map_cons, List.map_nil, hf]
 rfl
theorem vT {α : Type} (p : α → Bool) (l : List α) (i : Nat) (h : i < l.length) : (l.take (i + 1)).any p = ((l.take i).any p || p l[i]) := by
 rw [List.take_succ_eq_append_getElem h, List.any_append]
 simp
theorem uK (b : cA) (id e : Int) (hl : b.l.length ≤ 1000000) : eS (some b) id e = some (b.l.any (nm id), some { l := b.l.map (fZ id e) }) := by
 unfold eS
 have h := dC (body := fq b id e) (fun i => ({ l := (b.l.take i).map (fZ id e) ++ b.l.drop i }, (i : Int), (b.l.take i).any (nm id))) b.l.length (b.l.any (nm id), some { l := b.l.map (fZ id e) }) ?_ ?_
 ·simpa using h
 ·intro i hi
  have e1 : decide ((i : Int) < (b.l.length : Int)) = true := by simpa using hi
  have e2 : IntKind.i64.wrap ((i : Int) + 1) = ((i + 1 : Nat) : Int) := by rw [wrap_i64] <;> omega
  simp only [fq, e1, cond_true, rR, AS _ _ _ hi, Option.bind_some, e2, vT _ _ _ hi]
  cases hh : nm id b.l[i] with
  | true =>
   have hr : fZ id e b.l[i] = { r := b.l[i].r, from_ := b.l[i].from_, to_ := if (1:Int) > e then 1 else e } := by simp [fZ, hh]
   simp only [nm, Bool.and_eq_true] at hh
   rw [hh.1, hh.2, Bool.or_true, ← hr, Int.toNat_natCast, Bu _ _ _ hi]
   rfl
  | false =>
   have hr : fZ id e b.l[i] = b.l[i] := by simp [fZ, hh]
   rw [Bool.or_false, ← zx _ _ _ hi hr]
   simp only [nm] at hh
   cases h1 : (b.l[i].r.ID == id) with
   | false => rfl
   | true =>
    rw [h1, Bool.true_and] at hh
    rw [hh]; rfl
 ·have e1 : decide ((b.l.length : Int) < (b.l.length : Int)) = false := by simp
  simp only [fq, e1, cond_false, bB, Option.map_some, List.take_length, List.drop_length, List.append_nil]
theorem zw (b : cA) (r : du) (e : Int) (hl : b.l.length ≤ 1000000) : fT (some b) r e = some (some { l := b.l.map (fZ r.ID e) ++ [{ r := r, from_ := e, to_ := 0 }] }) := by
 simp only [fT, uK b r.ID e hl, Option.bind_some]
 rw [dh (jF (by simp; omega))]
def nN (id e : Int) (x : dg) : Bool := x.r.ID == id && (decide (x.from_ ≤ e) && (x.to_ == 0 || decide (x.to_ > e)))
def CY : du := { ID := 0, From := 0, To := 0, Lo := 0, Hi := 0, Authority := 0, Quota := 0 }
def tK : Option dg → du × Bool
 | some x => (x.r, true)
 | none => (CY, false)
def ld (p : dg → Bool) (l : List dg) : Option dg := l.reverse.find? p
theorem Bg (b : cA) (id e : Int) (i : Nat) (h : i < b.l.length) (hl : b.l.length ≤ 1000000) : gh b id e (i : Int) = bif nN id e b.l[i] then some (.inr (b.l[i].r, true)) else some (.inl ((i : Int) - 1)) := by
 have e1 : decide ((i : Int) ≥ 0) = true := by simp
 have e2 : IntKind.i64.wrap ((i : Int) - 1) = (i : Int) - 1 := by rw [wrap_i64] <;> omega
 simp only [gh, e1, cond_true, br h, Option.bind_some, e2, bB, Option.map_some, nN]
 cases (b.l[i].r.ID == id) <;> cases decide (b.l[i].from_ ≤ e) <;> cases (b.l[i].to_ == 0) <;> cases decide (b.l[i].to_ > e) <;> rfl
theorem Bh (b : cA) (id e : Int) (hl : b.l.length ≤ 1000000) : ∀ n, n ≤ b.l.length → bA (gh b id e) ((n : Int) - 1) = some (tK (ld (nN id e) (b.l.take n))) := by
 intro n
 induction n with
 | zero =>
  intro _
  rw [eD]
  rfl
 | succ n ih =>
  intro hn
  have e0 : ((n + 1 : Nat) : Int) - 1 = (n : Int) := by omega
  rw [eD, e0, Bg b id e n (by omega) hl, List.take_succ_eq_append_getElem (by omega)]
  simp only [ld, List.reverse_append, List.reverse_cons, List.reverse_nil, List.nil_append, List.singleton_append, List.find?_cons]
  cases nN id e b.l[n] with
  | true => rfl
  | false => exact ih (by omega)
theorem Du (b : cA) (id e : Int) (hl : b.l.length ≤ 1000000) : lQ (some b) id e = some (tK (ld (nN id e) b.l)) := by
 have e2 : IntKind.i64.wrap ((b.l.length : Int) - 1) = (b.l.length : Int) - 1 := by rw [wrap_i64] <;> omega
 show bA (gh b id e) (IntKind.i64.wrap ((b.l.length : Int) - 1)) = _
 rw [e2]
 have := Bh b id e hl b.l.length (Nat.le_refl _)
 rwa [List.take_length] at this
theorem wD (p : dg → Bool) (l : List dg) (x : dg) : ld p (l ++ [x]) = if p x then some x else ld p l := by
 simp [ld, List.find?_cons]
 cases p x <;> rfl
def rB (r : du) : Prop := r.Lo < 18446744073709551616 ∧ r.Hi < 18446744073709551616
end Go.Proofs.YtgnkkopjkgdieaaGreat

end
