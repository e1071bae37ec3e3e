/- A part of the proof. -/
import Derived.Test.YtgnkkopjkgdieaaGreatLanePlaysGw
import Derived.Test.YtgnkkopjkgdieaaGreatLanePlaysM
section
set_option linter.unusedVariables false
set_option linter.unusedSimpArgs false
set_option maxRecDepth 100000
namespace Go.Proofs.YtgnkkopjkgdieaaGreat
open Go Go.V
theorem vy {a : Nat} (ha : a < 18446744073709551616) : mr a = some (qp a) := by
 simp only [mr, uO, qp, Option.some.injEq, decide_eq_decide, Int.ofNat_eq_natCast]
 omega
theorem yY {a : Nat} (ha : a < 18446744073709551616) (na : mK a = false) : (qp a = true ∧ aB a = 9223372036854775807 + nS a ∧ nS a ≤ 0) ∨ (qp a = false ∧ aB a = 9223372036854775808 + nS a ∧ 0 ≤ nS a) := by
 unfold aB nS qp gE
 rw [na]
 by_cases h : 9223372036854775808 ≤ a
 ·left; simp only [h, if_true, decide_true, Bool.false_eq_true, if_false, true_and]; omega
 ·right; simp only [h, if_false, decide_false, Bool.false_eq_true, true_and]; omega
theorem oE {a b : Nat} (ha : a < 18446744073709551616) (hb : b < 18446744073709551616) : jI a b = some (decide (aB a < aB b)) := by
 unfold jI nP iL bB
 rw [vb ha, vb hb, zl ha (by decide), zl hb (by decide), EB ha hb, vy ha, vy hb]
 have k0 : nS 0 = 0 := by decide
 have n0 : mK 0 = false := by decide
 rw [k0, n0]
 cases na : mK a with
 | true =>
  have : aB a = 18446744073709551615 := by simp [aB, na]
  have h2 : ¬ (aB a < aB b) := by
   rw [this]; unfold aB; split
   ·omega
   ·split <;> omega
  simp [h2]
 | false =>
  cases nb : mK b with
  | true =>
   have h1 : aB b = 18446744073709551615 := by simp [aB, nb]
   have h2 : aB a < aB b := by
    have : gE a ≤ 9218868437227405312 := by simpa [mK] using na
    rw [h1]; unfold aB; rw [na]; unfold gE at this
    simp only [Bool.false_eq_true, if_false]
    split <;> omega
   simp [h2]
  | false =>
   have A := yY ha na
   have B := yY hb nb
   simp only [Bool.not_false, Bool.true_and, cond_false, Option.bind_some]
   by_cases z1 : nS a = 0 <;> by_cases z2 : nS b = 0 <;> rcases A with ⟨s1, r1, k1⟩ | ⟨s1, r1, k1⟩ <;> rcases B with ⟨s2, r2, k2⟩ | ⟨s2, r2, k2⟩ <;> rw [r1, r2] <;>
    simp only [z1, z2, s1, s2, decide_true, decide_false, cond_true, cond_false, Option.bind_some, Option.map_some, Bool.not_true, Bool.not_false, Option.some.injEq, Bool.false_eq, Bool.true_eq, decide_eq_false_iff_not, decide_eq_true_eq, decide_eq_decide] <;> omega
end Go.Proofs.YtgnkkopjkgdieaaGreat

end
section
set_option linter.unusedVariables false
set_option linter.unusedSimpArgs false
set_option maxRecDepth 100000
namespace Go.Proofs.YtgnkkopjkgdieaaGreat
open Go Go.V
theorem CE {a : Nat} (ha : a < 18446744073709551616) : pL a = some (mK a) := by simp [pL, vb ha]
theorem pd {a : Nat} (ha : a < 18446744073709551616) : eT a = some (aB a) := by
 unfold eT aB
 rw [CE ha, Option.bind_some]
 cases hn : mK a with
 | true => rfl
 | false =>
  simp only [cond_false, Int.ofNat_eq_natCast, CM, Bool.false_eq_true, if_false]
  by_cases h : 9223372036854775808 ≤ a
  ·have e : a / 9223372036854775808 = 1 := by omega
   rw [e, if_pos h]
   have := zY ha
   simp [this]
  ·have e : a / 9223372036854775808 = 0 := by omega
   rw [e, if_neg h]
   have := EI (x := a) (by omega)
   simp [this]
end Go.Proofs.YtgnkkopjkgdieaaGreat

end
section
set_option linter.unusedVariables false
set_option linter.unusedSimpArgs false
namespace Go.Proofs.YtgnkkopjkgdieaaGreat
open Go Go.V
theorem nO {a b : Nat} (ha : a < 18446744073709551616) (hb : b < 18446744073709551616) : eJ a b = some (decide (aB a = aB b)) := by
 unfold eJ
 rw [oE ha hb, oE hb ha]
 by_cases h1 : aB a < aB b
 ·have : ¬ aB a = aB b := by omega
  simp [h1, this]
 ·by_cases h2 : aB b < aB a
  ·have : ¬ aB a = aB b := by omega
   simp [h1, h2, this]
  ·have : aB a = aB b := by omega
   simp [h1, h2, this]
end Go.Proofs.YtgnkkopjkgdieaaGreat

end
section
set_option linter.unusedVariables false
set_option linter.unusedSimpArgs false
set_option maxRecDepth 100000
namespace Go.Proofs.YtgnkkopjkgdieaaGreat
open Go Go.V
theorem back_eq {v : Nat} (hv : v < 18446744073709551616) : jJ (v : Int) = some (if 9223372036854775808 ≤ v then v - 9223372036854775808 else 18446744073709551615 - v) := by
 unfold jJ
 rw [CM, zM hv, zY hv]
 by_cases h : 9223372036854775808 ≤ v
 ·have e : v / 9223372036854775808 = 1 := by omega
  rw [e, if_pos h]
  have e2 : v % 9223372036854775808 = v - 9223372036854775808 := by omega
  rw [show (((1:Nat):Int) == 1) = true from rfl, cond_true, Int.toNat_natCast, e2]
 ·have e : v / 9223372036854775808 = 0 := by omega
  rw [e, if_neg h]
  have e2 : ((18446744073709551615:Int) - (v:Int)).toNat = 18446744073709551615 - v := by omega
  rw [show (((0:Nat):Int) == 1) = false from rfl, cond_false, e2]
theorem wR {x : Nat} (hx : x < 18446744073709551616) : 0 ≤ aB x ∧ aB x < 18446744073709551616 := by
 unfold aB
 split
 ·omega
 ·split <;> omega
theorem wX {x : Nat} (hx : x < 18446744073709551616) (hn : mK x = false) : jJ (aB x) = some x := by
 obtain ⟨h0, h1⟩ := wR hx
 obtain ⟨u, hu⟩ := Int.eq_ofNat_of_zero_le h0
 rw [hu, back_eq (by omega)]
 congr 1
 unfold aB at hu
 rw [hn] at hu
 simp only [Bool.false_eq_true, if_false] at hu
 split at hu <;> split <;> omega
end Go.Proofs.YtgnkkopjkgdieaaGreat

end
section
set_option linter.unusedVariables false
set_option linter.unusedSimpArgs false
set_option maxRecDepth 100000
namespace Go.Proofs.YtgnkkopjkgdieaaGreat
open Go Go.V
def pE (t : ao) : Prop := 0 ≤ t.I ∧ t.L.length ≤ 1000000 ∧ ∀ x ∈ t.L, 0 ≤ x ∧ x < 256
theorem Ai {t : ao} {n : Int} (h : pE t) (hn : 0 < n) (hn2 : n ≤ 1000000000) : ∃ v t', aK t n = some (v, t') ∧ 0 ≤ v ∧ v < n ∧ pE t' ∧ t'.L = t.L := by
 obtain ⟨L, I⟩ := t
 obtain ⟨h0, h1, h2⟩ := h
 simp only at h0 h1 h2
 obtain ⟨i, rfl⟩ := Int.eq_ofNat_of_zero_le h0
 unfold aK
 simp only
 cases hc : decide ((i : Int) ≥ (L.length : Int)) with
 | true => exact ⟨0, _, rfl, Int.le_refl _, hn, ⟨h0, h1, h2⟩, rfl⟩
 | false =>
  have hlt : (i : Int) < (L.length : Int) := by simpa using hc
  have e1 : IntKind.i64.wrap ((i : Int) + 1) = i + 1 := by rw [wrap_i64] <;> omega
  have e2 : IntKind.i64.wrap ((i : Int) + 1 - 1) = i := by rw [wrap_i64] <;> omega
  have hi2 : i < L.length := by omega
  have hx := h2 L[i] (List.getElem_mem hi2)
  have e3 : IntKind.i64.wrap L[i] = L[i] := by rw [wrap_i64] <;> omega
  have e4 : (!(n == (0:Int))) = true := by simp; omega
  have e5 : Int.tmod L[i] n = L[i] % n := Int.tmod_eq_emod_of_nonneg hx.1
  simp only [cond_false, e1, e2, br hi2, Option.bind_some, e3, dh e4, e5]
  refine ⟨_, _, rfl, Int.emod_nonneg _ (by omega), Int.emod_lt_of_pos _ hn, ⟨?_, h1, h2⟩, rfl⟩
  show (0:Int) ≤ (i : Int) + 1
  omega
end Go.Proofs.YtgnkkopjkgdieaaGreat

end
section
set_option linter.unusedVariables false
set_option linter.unusedSimpArgs false
set_option maxRecDepth 100000
namespace Go.Proofs.YtgnkkopjkgdieaaGreat
open Go Go.V
theorem zr {v : Int} (h0 : 0 ≤ v) (h1 : v < 8) : ∃ f, qb v = some f ∧ f < 18446744073709551616 ∧ mK f = false := by
 have : v = 0 ∨ v = 1 ∨ v = 2 ∨ v = 3 ∨ v = 4 ∨ v = 5 ∨ v = 6 ∨ v = 7 := by omega
 rcases this with rfl | rfl | rfl | rfl | rfl | rfl | rfl | rfl <;> exact ⟨_, rfl, by decide, by decide⟩
theorem zd {t : ao} (h : pE t) : ∃ f t', cV t = some (f, t') ∧ (f < 18446744073709551616 ∧ mK f = false) ∧ pE t' := by
 obtain ⟨v, t', h1, h2, h3, h4, h5⟩ := Ai h (n := 8) (by decide) (by decide)
 have e : IntKind.u8.wrap v = v := by rw [wrap_u8] <;> omega
 obtain ⟨f, g1, g2⟩ := zr h2 h3
 exact ⟨f, t', by simp [cV, h1, e, g1], g2, h4⟩
end Go.Proofs.YtgnkkopjkgdieaaGreat

end
section
set_option linter.unusedVariables false
set_option linter.unusedSimpArgs false
set_option maxRecDepth 100000
namespace Go.Proofs.YtgnkkopjkgdieaaGreat
open Go Go.V
end Go.Proofs.YtgnkkopjkgdieaaGreat

end
section
set_option linter.unusedVariables false
set_option linter.unusedSimpArgs false
set_option maxRecDepth 100000
namespace Go.Proofs.YtgnkkopjkgdieaaGreat
open Go Go.V
def Ba (r : ca) : Prop := r.p.length ≤ 1000000000 ∧ ∀ x ∈ r.p, zg x
end Go.Proofs.YtgnkkopjkgdieaaGreat

end
section
set_option linter.unusedVariables false
set_option linter.unusedSimpArgs false
set_option maxRecDepth 100000
namespace Go.Proofs.YtgnkkopjkgdieaaGreat
open Go Go.V
end Go.Proofs.YtgnkkopjkgdieaaGreat

end
section
set_option linter.unusedVariables false
set_option linter.unusedSimpArgs false
set_option maxRecDepth 100000
namespace Go.Proofs.YtgnkkopjkgdieaaGreat
open Go Go.V
theorem DQ (a b : List Int) (hl : a.length ≤ 1000000000) : fa a b = some (decide (a = b)) := by
 unfold fa
 cases h : (((a).length : Int) != ((b).length : Int)) with
 | true =>
  have : ¬ a = b := by rintro rfl; simp at h
  simp [this]
 | false =>
  have hlen : a.length = b.length := by simp at h; omega
  rw [cond_false]
  obtain ⟨r, e1, e2⟩ : ∃ r, bA (fc a b) (0:Int) = some r ∧ r = decide (a = b) := by
   refine nz (fun i : Int => 0 ≤ i ∧ i ≤ a.length ∧ a.take i.toNat = b.take i.toNat) (fun i => ((a.length : Int) - i).toNat) (fun r => r = decide (a = b)) ?_ ⟨Int.le_refl 0, by omega, by simp⟩
   rintro i ⟨h0, h1, h2⟩
   obtain ⟨n, rfl⟩ := Int.eq_ofNat_of_zero_le h0
   unfold fc
   cases hi : decide ((n : Int) < (a.length : Int)) with
   | false =>
    have hn : n = a.length := by simp at hi; omega
    right
    refine ⟨true, rfl, ?_⟩
    subst hn
    rw [Int.toNat_natCast, List.take_length, hlen, List.take_length] at h2
    simp [h2]
   | true =>
    have hn : n < a.length := by simpa using hi
    have hn2 : n < b.length := by omega
    have hw : IntKind.i64.wrap ((n : Int) + 1) = ((n + 1 : Nat) : Int) := by rw [wrap_i64] <;> omega
    simp only [cond_true, br hn, br hn2, Option.bind_some, hw]
    by_cases he : a[n] = b[n]
    ·left
     refine ⟨((n + 1 : Nat) : Int), by simp [he], ⟨by omega, by omega, ?_⟩, by omega⟩
     rw [Int.toNat_natCast] at h2
     rw [Int.toNat_natCast, List.take_succ_eq_append_getElem hn, List.take_succ_eq_append_getElem hn2, h2, he]
    ·right
     have hne : ¬ a = b := by
      intro e
      subst e
      exact he rfl
     have hb : (a[n] != b[n]) = true := by simpa using he
     exact ⟨false, by rw [hb]; rfl, by simp [hne]⟩
  rw [e1, e2]
end Go.Proofs.YtgnkkopjkgdieaaGreat

end
section
set_option linter.unusedVariables false
set_option linter.unusedSimpArgs false
set_option maxRecDepth 100000
namespace Go.Proofs.YtgnkkopjkgdieaaGreat
open Go Go.V
end Go.Proofs.YtgnkkopjkgdieaaGreat

end
section
set_option linter.unusedVariables false
set_option linter.unusedSimpArgs false
set_option maxRecDepth 100000
namespace Go.Proofs.YtgnkkopjkgdieaaGreat
open Go Go.V
def isF (x : Nat) : Prop := x < 18446744073709551616
end Go.Proofs.YtgnkkopjkgdieaaGreat

end
section
set_option linter.unusedVariables false
set_option linter.unusedSimpArgs false
set_option maxRecDepth 100000
namespace Go.Proofs.YtgnkkopjkgdieaaGreat
open Go Go.V
end Go.Proofs.YtgnkkopjkgdieaaGreat

end
section
set_option linter.unusedVariables false
set_option linter.unusedSimpArgs false
set_option maxRecDepth 100000
namespace Go.Proofs.YtgnkkopjkgdieaaGreat
open Go Go.V
end Go.Proofs.YtgnkkopjkgdieaaGreat

end
section
set_option linter.unusedVariables false
set_option linter.unusedSimpArgs false
set_option maxRecDepth 100000
namespace Go.Proofs.YtgnkkopjkgdieaaGreat
open Go Go.V
def U8s (l : List Int) : Prop := ∀ y ∈ l, zg y
theorem U8s.app {a b : List Int} (h : U8s a) (k : U8s b) : U8s (a ++ b) := fun y hy => (List.mem_append.1 hy).elim (h y) (k y)
theorem U8s.nil : U8s [] := fun y hy => by cases hy
theorem U8s.flat {β : Type} {e : β → List Int} {l : List β} (h : ∀ x ∈ l, U8s (e x)) : U8s (l.map e).flatten := by
 intro y hy
 simp only [List.mem_flatten, List.mem_map] at hy
 obtain ⟨_, ⟨x, hx, rfl⟩, hy⟩ := hy
 exact h x hx y hy
def RD {α : Type} (f : ca → Option (α × ca)) (b : List Int) (x : α) : Prop := U8s b ∧ ∀ q, U8s q → b.length + q.length ≤ 1000000000 → f { p := b ++ q, bad := false } = some (x, { p := q, bad := false })
def TT {α : Type} (f : ca → Option (α × ca)) (P : α → Prop) : Prop := ∀ r, Ba r → ∃ x r', f r = some (x, r') ∧ P x ∧ Ba r'
theorem RD.ret {α : Type} (x : α) : RD (fun r => some (x, r)) [] x := ⟨U8s.nil, fun q hq _ => rfl⟩
theorem RD.bind {α β : Type} {f : ca → Option (α × ca)} {g : α × ca → Option (β × ca)} {b c : List Int} {x : α} {y : β} (hf : RD f b x) (hg : RD (fun r => g (x, r)) c y) : RD (fun r => (f r).bind g) (b ++ c) y :=
 ⟨hf.1.app hg.1, fun q hq hl => by
  simp only [List.length_append] at hl
  show (f { p := b ++ c ++ q, bad := false }).bind g = _
  rw [List.append_assoc, hf.2 (c ++ q) (hg.1.app hq) (by simp only [List.length_append]; omega), Option.bind_some]
  exact hg.2 q hq (by omega)⟩
theorem RD.map {α β : Type} {f : ca → Option (α × ca)} {g : α × ca → Option (β × ca)} {b : List Int} {x : α} {y : β} (hf : RD f b x) (hg : ∀ r, g (x, r) = some (y, r)) : RD (fun r => (f r).bind g) b y :=
 ⟨hf.1, fun q hq hl => by show (f { p := b ++ q, bad := false }).bind g = _; rw [hf.2 q hq hl, Option.bind_some, hg]⟩
theorem RD.of {α : Type} {f g : ca → Option (α × ca)} {b : List Int} {x : α} (h : ∀ r, f r = g r) (hg : RD g b x) : RD f b x := ⟨hg.1, fun q hq hl => by rw [h]; exact hg.2 q hq hl⟩
theorem RD.congr {α : Type} {f : ca → Option (α × ca)} {b c : List Int} {x y : α} (h : RD f b x) (e : b = c) (e2 : x = y) : RD f c y := e ▸ e2 ▸ h
theorem TT.ret {α : Type} {P : α → Prop} {x : α} (h : P x) : TT (fun r => some (x, r)) P := fun r hr => ⟨x, r, rfl, h, hr⟩
theorem TT.bind {α β : Type} {f : ca → Option (α × ca)} {g : α × ca → Option (β × ca)} {P : α → Prop} {Q : β → Prop} (hf : TT f P) (hg : ∀ x, P x → TT (fun r => g (x, r)) Q) : TT (fun r => (f r).bind g) Q := fun r hr => by
 obtain ⟨x, r', h1, h2, h3⟩ := hf r hr
 obtain ⟨y, r2, k1, k2, k3⟩ := hg x h2 r' h3
 exact ⟨y, r2, by show (f r).bind g = _; rw [h1, Option.bind_some]; exact k1, k2, k3⟩
theorem TT.of {α : Type} {f g : ca → Option (α × ca)} {P : α → Prop} (h : ∀ r, f r = g r) (hg : TT g P) : TT f P := fun r hr => by rw [h]; exact hg r hr
theorem TT.imp {α : Type} {f : ca → Option (α × ca)} {P Q : α → Prop} (hf : TT f P) (h : ∀ x, P x → Q x) : TT f Q := fun r hr => by
 obtain ⟨x, r', h1, h2, h3⟩ := hf r hr
 exact ⟨x, r', h1, h x h2, h3⟩
theorem pw8 : (256:Nat) ^ 8 = 18446744073709551616 := by decide
theorem pw4 : (256:Nat) ^ 4 = 4294967296 := by decide
theorem pw2 : (256:Nat) ^ 2 = 65536 := by decide
theorem pw1 : (256:Nat) ^ 1 = 256 := by decide
def isU (m : Nat) (v : Int) : Prop := 0 ≤ v ∧ v < ((256 ^ m : Nat) : Int)
def cf (x : Nat) : Nat := if 9223372036854775808 ≤ (aB x).toNat then (aB x).toNat - 9223372036854775808 else 18446744073709551615 - (aB x).toNat
theorem DU {x : Nat} (h : isF x) : jJ (aB x) = some (cf x) := by
 obtain ⟨h0, h1⟩ := wR h
 have := back_eq (v := (aB x).toNat) (by omega)
 rw [Int.toNat_of_nonneg h0] at this
 rw [this]; rfl
theorem Ax {x : Nat} (h : isF x) (hn : mK x = false) : cf x = x := by
 have h1 := wX h hn
 rw [DU h] at h1
 exact Option.some.inj h1
theorem yx {x : Nat} (h : isF x) : aB (cf x) = aB x := by
 cases hn : mK x with
 | false => rw [Ax h hn]
 | true =>
  have e : aB x = 18446744073709551615 := by simp [aB, hn]
  have e2 : cf x = 9223372036854775807 := by unfold cf; rw [e]; decide
  rw [e2, e]; decide
theorem El {x y : Nat} (hx : isF x) (hy : isF y) : cf x = cf y ↔ aB x = aB y := by
 constructor
 ·intro h
  rw [← yx hx, ← yx hy, h]
 ·intro h
  unfold cf
  rw [h]
section
variable {α β S R : Type} {body : S → Option (S ⊕ R)} (st : ca → List α → Int → S) (out : ca → List α → R) {F : ca → Option (α × ca)}
theorem RD.loop (l : List β) (e : β → List Int) (c : β → α) (hl : l.length ≤ 1000000000) (hF : ∀ x ∈ l, RD F (e x) (c x))
  (hb : ∀ r acc i, i < (l.length : Int) → body (st r acc i) = (F r).bind fun t => gd (room acc [t.1]) (some (Sum.inl (st t.2 (acc ++ [t.1]) (IntKind.i64.wrap (i + (1:Int)))))))
  (hend : ∀ r acc, body (st r acc (l.length : Int)) = some (Sum.inr (out r acc))) (q : List Int) (hq : U8s q) (hlen : (l.map e).flatten.length + q.length ≤ 1000000000) :
  bA body (st { p := (l.map e).flatten ++ q, bad := false } [] (0:Int)) = some (out { p := q, bad := false } (l.map c)) := by
 have h := dC (body := body) (fun i => st { p := ((l.drop i).map e).flatten ++ q, bad := false } ((l.take i).map c) (i : Int)) l.length (out { p := q, bad := false } (l.map c)) ?_ ?_
 ·simpa using h
 ·intro i hi
  have e1 : IntKind.i64.wrap ((i : Int) + (1:Int)) = ((i + 1 : Nat) : Int) := by rw [wrap_i64] <;> omega
  have hx := hF _ (List.getElem_mem hi)
  have hu : U8s (((l.drop (i + 1)).map e).flatten ++ q) := (U8s.flat fun x hx => (hF x (List.mem_of_mem_drop hx)).1).app hq
  have hd : l.drop i = l[i] :: l.drop (i + 1) := List.drop_eq_getElem_cons hi
  have hlen2 : ((l.drop i).map e).flatten.length ≤ (l.map e).flatten.length := by
   have h3 : (l.map e).flatten = ((l.take i).map e).flatten ++ ((l.drop i).map e).flatten := by rw [← List.flatten_append, ← List.map_append, List.take_append_drop]
   rw [h3, List.length_append]; omega
  rw [hd, List.map_cons, List.flatten_cons, List.length_append] at hlen2
  have hr := hx.2 _ hu (by simp only [List.length_append]; omega)
  rw [hb _ _ _ (by omega), hd, List.map_cons, List.flatten_cons, List.append_assoc, hr, Option.bind_some, dh (jF (by simp only [List.length_map, List.length_take, List.length_cons, List.length_nil]; omega)), e1, List.take_succ_eq_append_getElem hi, List.map_append]
  rfl
 ·rw [hend, List.take_length, List.drop_length]; rfl
theorem TT.loop {P : α → Prop} (hF : TT F P) (n : Int) (hn : n ≤ 1000000000)
  (hb : ∀ r acc i, i < n → body (st r acc i) = (F r).bind fun t => gd (room acc [t.1]) (some (Sum.inl (st t.2 (acc ++ [t.1]) (IntKind.i64.wrap (i + (1:Int)))))))
  (hend : ∀ r acc i, ¬ i < n → body (st r acc i) = some (Sum.inr (out r acc))) (r : ca) (hr : Ba r) (h0 : 0 ≤ n) :
  ∃ r' acc, bA body (st r [] (0:Int)) = some (out r' acc) ∧ Ba r' ∧ (∀ x ∈ acc, P x) ∧ (acc.length : Int) ≤ n := by
 have key : ∀ (k : Nat) (r : ca) (acc : List α) (i : Int), Ba r → (acc.length : Int) = i → i ≤ n → (∀ x ∈ acc, P x) → (n - i).toNat ≤ k → ∃ r' acc', bA body (st r acc i) = some (out r' acc') ∧ Ba r' ∧ (∀ x ∈ acc', P x) ∧ (acc'.length : Int) ≤ n := by
  intro k
  induction k with
  | zero =>
   intro r acc i hr ha hi hP hk
   have hni : ¬ i < n := by omega
   exact ⟨r, acc, by rw [eD, hend r acc i hni]; rfl, hr, hP, by omega⟩
  | succ k ih =>
   intro r acc i hr ha hi hP hk
   by_cases hlt : i < n
   ·obtain ⟨x, r', h1, h2, h3⟩ := hF r hr
    have e1 : IntKind.i64.wrap (i + (1:Int)) = i + 1 := by rw [wrap_i64] <;> omega
    obtain ⟨r2, acc2, g1, g2, g3, g4⟩ := ih r' (acc ++ [x]) (i + 1) h3 (by simp only [List.length_append, List.length_cons, List.length_nil]; omega) (by omega) (fun y hy => by
     rcases List.mem_append.1 hy with hy | hy
     ·exact hP y hy
     ·cases List.mem_singleton.1 hy; exact h2) (by omega)
    refine ⟨r2, acc2, ?_, g2, g3, g4⟩
    rw [eD, hb r acc i hlt, h1, Option.bind_some, dh (jF (by simp only [List.length_cons, List.length_nil]; omega)), e1]
    exact g1
   ·exact ⟨r, acc, by rw [eD, hend r acc i hlt]; rfl, hr, hP, by omega⟩
 exact key (n - 0).toNat r [] 0 hr rfl h0 (fun x hx => by cases hx) (Nat.le_refl _)
end
end Go.Proofs.YtgnkkopjkgdieaaGreat

end
section
set_option linter.unusedVariables false
set_option linter.unusedSimpArgs false
set_option maxRecDepth 100000
namespace Go.Proofs.YtgnkkopjkgdieaaGreat
open Go Go.V
theorem bnd {α β : Type} {x : Option α} {f g : α → Option β} (h : ∀ a, f a = g a) : x.bind f = x.bind g := by rw [funext h]
def oT (x : Nat × Nat) : Nat × Nat := (cf x.1, cf x.2)
theorem tH {α : Type} (x : Option α) : x.bind some = x := by cases x <;> rfl
def ia (h : ap) : Prop := isU 8 h.ID.Session ∧ isU 8 h.ID.Seq ∧ isU 8 h.Epoch ∧ (∀ x ∈ h.Gets, isF x) ∧ (∀ x ∈ h.Scans, isF x.1 ∧ isF x.2) ∧ (∀ x ∈ h.Puts, isF x) ∧ h.Gets.length ≤ 32 ∧ h.Scans.length ≤ 32 ∧ h.Puts.length ≤ 32 ∧ h.Data.length ≤ 257 ∧ U8s h.Data
def mR (h : ap) : ap := { h with ID := { Session := h.ID.Session, Seq := h.ID.Seq }, Gets := h.Gets.map cf, Scans := h.Scans.map oT, Puts := h.Puts.map cf }
end Go.Proofs.YtgnkkopjkgdieaaGreat

end
section
set_option linter.unusedVariables false
set_option linter.unusedSimpArgs false
set_option maxRecDepth 100000
namespace Go.Proofs.YtgnkkopjkgdieaaGreat
open Go Go.V
def EG (x : ct) : Prop := x.Val.length ≤ 256 ∧ U8s x.Val
def Cv (x : bQ) : Prop := isF x.At ∧ x.Val.length ≤ 256 ∧ U8s x.Val
def zz (l : List bQ) : Prop := l.length ≤ 64 ∧ ∀ p ∈ l, Cv p
def vm (x : bw) : Prop := isU 1 x.E ∧ isU 8 x.Epoch ∧ isU 8 x.Index ∧ (∀ g ∈ x.Gots, EG g) ∧ (∀ l ∈ x.Scans, zz l) ∧ x.Gots.length ≤ 32 ∧ x.Scans.length ≤ 32
def FE (x : ct) : ct := { Has := x.Has, Val := x.Val }
def AF (x : bQ) : bQ := { At := cf x.At, Val := x.Val }
def va (l : List bQ) : List bQ := l.map AF
def ue (x : bw) : bw := { x with Gots := x.Gots.map FE, Scans := x.Scans.map va }
end Go.Proofs.YtgnkkopjkgdieaaGreat

end
section
set_option linter.unusedVariables false
set_option linter.unusedSimpArgs false
set_option maxRecDepth 100000
namespace Go.Proofs.YtgnkkopjkgdieaaGreat
open Go Go.V
def ze (x : bR) : Prop := isF x.At ∧ x.Val.length ≤ 256 ∧ U8s x.Val
def qQ (l : List bR) : Prop := l.length ≤ 32 ∧ ∀ x ∈ l, ze x
def xB (x : bR) : bR := { x with At := cf x.At }
def qZ (l : List bR) : List bR := l.map xB
def Ae (x : du) : Prop := isU 8 x.ID ∧ isU 1 x.From ∧ isU 1 x.To ∧ isF x.Lo ∧ isF x.Hi ∧ isU 8 x.Authority ∧ isU 4 x.Quota
def wP (x : du) : du := { x with Lo := cf x.Lo, Hi := cf x.Hi }
def Cx (x : ee) : Prop := isU 1 x.Shard ∧ qQ x.Writes
def yk (x : ee) : ee := { Shard := x.Shard, Writes := qZ x.Writes }
def idG (x : bO) : Prop := isU 8 x.Session ∧ isU 8 x.Seq
def cId (x : bO) : bO := { Session := x.Session, Seq := x.Seq }
def zR : bw := { E := 0, Epoch := 0, Index := 0, Gots := [], Scans := [] }
def zH : ap := { ID := { Session := 0, Seq := 0 }, Epoch := 0, Gets := [], Scans := [], Puts := [], Data := [] }
def zL : du := { ID := 0, From := 0, To := 0, Lo := 0, Hi := 0, Authority := 0, Quota := 0 }
def zC : aH := { Kind := 0, ID := { Session := 0, Seq := 0 }, Epoch := 0, Index := 0, E := 0, Hold := zH, Writes := [], R := zR, Shards := 0, Parts := [], Rule := zL, On := false }
end Go.Proofs.YtgnkkopjkgdieaaGreat

end
section
set_option linter.unusedVariables false
set_option linter.unusedSimpArgs false
set_option maxRecDepth 100000
namespace Go.Proofs.YtgnkkopjkgdieaaGreat
open Go Go.V
def BB (c : aH) : Prop := (1 ≤ c.Kind ∧ c.Kind ≤ 7) ∧ idG c.ID ∧ isU 8 c.Epoch ∧ isU 8 c.Index ∧ isU 1 c.E ∧ ia c.Hold ∧ qQ c.Writes ∧ vm c.R ∧ isU 2 c.Shards ∧ c.Parts.length ≤ 8 ∧ (∀ x ∈ c.Parts, Cx x) ∧ Ae c.Rule
def Fi (c : aH) : aH :=
 if c.Kind = 1 then { zC with Kind := 1, Epoch := c.Epoch }
 else if c.Kind = 2 then { zC with Kind := 2, Hold := mR c.Hold }
 else if c.Kind = 3 then { zC with Kind := 3, ID := cId c.ID, E := c.E, Epoch := c.Epoch, Index := c.Index, Writes := qZ c.Writes }
 else if c.Kind = 4 then { zC with Kind := 4, ID := cId c.ID, Epoch := c.Epoch, Shards := c.Shards, Parts := c.Parts.map yk, R := ue c.R }
 else if c.Kind = 5 then { zC with Kind := 5, ID := cId c.ID }
 else if c.Kind = 6 then { zC with Kind := 6, Rule := wP c.Rule, On := c.On }
 else if c.Kind = 7 then { zC with Kind := 7, ID := cId c.ID, Epoch := c.Epoch, Rule := wP c.Rule, Writes := qZ c.Writes, R := ue c.R }
 else zC
theorem oK {β : Type} {P : β → Prop} : ∀ x ∈ ([] : List β), P x := fun x h => by cases h
theorem u0 (m : Nat) : isU m 0 := ⟨Int.le_refl _, by have := Nat.pow_pos (n := m) (show 0 < 256 by decide); omega⟩
theorem Bn : ia zH := ⟨u0 8, u0 8, u0 8, oK, oK, oK, Nat.zero_le _, Nat.zero_le _, Nat.zero_le _, Nat.zero_le _, U8s.nil⟩
theorem CB : vm zR := ⟨u0 1, u0 8, u0 8, oK, oK, Nat.zero_le _, Nat.zero_le _⟩
theorem Dh : Ae zL := ⟨u0 8, u0 1, u0 1, by show (0:Nat) < _; decide, by show (0:Nat) < _; decide, u0 8, u0 4⟩
theorem BP : qQ [] := ⟨Nat.zero_le _, oK⟩
theorem kinds {k : Int} (h : 1 ≤ k ∧ k ≤ 7) : k = 1 ∨ k = 2 ∨ k = 3 ∨ k = 4 ∨ k = 5 ∨ k = 6 ∨ k = 7 := by omega
theorem kd (k : Int) (h : 1 ≤ k ∧ k ≤ 7) : 1 ≤ k ∧ k ≤ 7 := h
end Go.Proofs.YtgnkkopjkgdieaaGreat

end
section
set_option linter.unusedVariables false
set_option linter.unusedSimpArgs false
set_option maxRecDepth 100000
namespace Go.Proofs.YtgnkkopjkgdieaaGreat
open Go Go.V
noncomputable def tr (p : Prop) : Bool := @decide p (Classical.propDecidable p)
theorem zQ {p : Prop} : tr p = true ↔ p := by unfold tr; exact @decide_eq_true_iff p (Classical.propDecidable p)
theorem yg {p : Prop} (h : p) : tr p = true := zQ.2 h
theorem xJ {p : Prop} (h : ¬ p) : tr p = false := by cases e : tr p with | false => rfl | true => exact absurd (zQ.1 e) h
theorem tZ {p : Prop} {b : Bool} (h : b = true ↔ p) : b = tr p := by
 by_cases hp : p
 ·rw [yg hp, h.2 hp]
 ·rw [xJ hp]; cases b with | false => rfl | true => exact absurd (h.1 rfl) hp
theorem lP {p q : Prop} (h : p ↔ q) : tr p = tr q := tZ (zQ.trans h)
theorem oD {p q : Prop} {b : Bool} {X : Option Bool} (hb : b = !(tr p)) (h : p → X = some (tr q)) : (bif b then some false else X) = some (tr (p ∧ q)) := by
 subst hb
 by_cases hp : p
 ·rw [yg hp, Bool.not_true, cond_false, h hp, lP (q := p ∧ q) ⟨fun hq => ⟨hp, hq⟩, fun hq => hq.2⟩]
 ·rw [xJ hp, Bool.not_false, cond_true, xJ fun h => hp h.1]
theorem Ew (a b : Int) : (a != b) = !(tr (a = b)) := by rw [← tZ (b := a == b) (by simp)]; rfl
theorem EX (a b : Int) : (a == b) = tr (a = b) := tZ (by simp)
theorem Fb {a b : List Int} (ha : U8s a) (hb : U8s b) : sEq (iZ a) (iZ b) = tr (a = b) := by rw [Bv ha hb]; exact tZ (by simp)
theorem xV {α β : Type} (a : List α) (b : List β) : (((a.length : Nat) : Int) != ((b.length : Nat) : Int)) = !(tr (a.length = b.length)) := by rw [Ew]; exact congrArg _ (lP (by omega))
theorem tU {a b : Nat} (ha : isF a) (hb : isF b) : eJ a b = some (tr (cf a = cf b)) := by
 rw [nO ha hb, lP (El ha hb)]
 exact congrArg _ (tZ (by simp))
theorem stp {γ : Type} {p q : Prop} {X N Y : γ} (h : X = bif tr q then Y else N) : (bif !(tr p) then N else X) = bif tr (p ∧ q) then Y else N := by
 by_cases hp : p
 ·rw [yg hp, Bool.not_true, cond_false, h, lP (q := p ∧ q) ⟨fun hq => ⟨hp, hq⟩, fun hq => hq.2⟩]
 ·rw [xJ hp, Bool.not_false, cond_true, xJ fun h => hp h.1, cond_false]
theorem Bc {γ : Type} {p : Prop} {N Y : γ} : (bif !(tr p) then N else Y) = bif tr p then Y else N := by cases tr p <;> rfl
theorem cond_congr {γ : Type} {p q : Prop} {N Y : γ} (h : p ↔ q) : (bif tr p then Y else N) = bif tr q then Y else N := by rw [lP h]
theorem qu {α β R : Type} {body : Int → Option (Int ⊕ R)} (yes no : R) (c : α → β) (a b : List α) (hl : a.length = b.length) (hn : a.length ≤ 1000000)
  (hstep : ∀ i (h : i < a.length), body (i : Int) = bif tr (c a[i] = c (b[i]'(hl ▸ h))) then some (Sum.inl (IntKind.i64.wrap ((i : Int) + (1:Int)))) else some (Sum.inr no))
  (hend : body (a.length : Int) = some (Sum.inr yes)) : bA body (0:Int) = some (bif tr (a.map c = b.map c) then yes else no) := by
 have key : ∀ k, k ≤ a.length → bA body ((a.length - k : Nat) : Int) = some (bif tr ((a.drop (a.length - k)).map c = (b.drop (a.length - k)).map c) then yes else no) := by
  intro k
  induction k with
  | zero =>
   intro _
   have hb : b.drop (a.length - 0) = [] := List.drop_eq_nil_of_le (by omega)
   have ha : a.drop (a.length - 0) = [] := List.drop_eq_nil_of_le (by omega)
   rw [eD, Nat.sub_zero, hend]
   simp only [Nat.sub_zero] at ha hb
   rw [ha, hb, yg rfl]; rfl
  | succ k ih =>
   intro hk
   have hi : a.length - (k + 1) < a.length := by omega
   have e : IntKind.i64.wrap (((a.length - (k + 1) : Nat) : Int) + (1:Int)) = ((a.length - k : Nat) : Int) := by rw [wrap_i64] <;> omega
   have e2 : a.length - (k + 1) + 1 = a.length - k := by omega
   have ha : a.drop (a.length - (k + 1)) = a[a.length - (k + 1)] :: a.drop (a.length - k) := by rw [List.drop_eq_getElem_cons hi, e2]
   have hb : b.drop (a.length - (k + 1)) = b[a.length - (k + 1)]'(hl ▸ hi) :: b.drop (a.length - k) := by rw [List.drop_eq_getElem_cons (hl ▸ hi), e2]
   rw [eD, hstep _ hi, e]
   by_cases hc : c a[a.length - (k + 1)] = c (b[a.length - (k + 1)]'(hl ▸ hi))
   ·rw [yg hc, cond_true]
    have h := ih (by omega)
    rw [ha, hb, List.map_cons, List.map_cons]
    rw [lP (q := (a.drop (a.length - k)).map c = (b.drop (a.length - k)).map c) (by simp [hc])]
    exact h
   ·rw [xJ hc, cond_false, ha, hb, List.map_cons, List.map_cons, xJ (by simp [hc])]
    rfl
 have h := key a.length (Nat.le_refl _)
 simpa using h
theorem xy {α β : Type} {c : α → β} {a b : List α} {X : Option Bool} (h : a.length = b.length → X = some (tr (a.map c = b.map c))) : (bif ((a.length : Nat) : Int) != ((b.length : Nat) : Int) then some false else X) = some (tr (a.map c = b.map c)) := by
 rw [oD (xV a b) h]
 exact congrArg _ (lP ⟨fun h => h.2, fun h => ⟨by simpa using congrArg List.length h, h⟩⟩)
theorem xq {p : Prop} : (bif tr p then true else false) = tr p := by cases tr p <;> rfl
theorem id_eq (x y : bO) : (x.Session = y.Session ∧ x.Seq = y.Seq) ↔ x = y := by cases x; cases y; simp
theorem Cm {R : Type} {p q : Prop} {f : Unit → Option Bool} (h : p → f () = some (tr q)) : iL (some (bif tr p then (Sum.inl () : Unit ⊕ Bool) else Sum.inr false)) f = some (tr (p ∧ q)) := by
 by_cases hp : p
 ·rw [yg hp, cond_true]
  show f () = _
  rw [h hp, lP (q := p ∧ q) ⟨fun hq => ⟨hp, hq⟩, fun hq => hq.2⟩]
 ·rw [xJ hp, cond_false, xJ fun h => hp h.1]; rfl
theorem xn {a b : ap} (ha : ia a) (hb : ia b) : ji a b = some (tr (mR a = mR b)) := by
 obtain ⟨_, _, _, a4, a5, a6, a7, a8, a9, _, a10⟩ := ha
 obtain ⟨_, _, _, b4, b5, b6, b7, b8, b9, _, b10⟩ := hb
 unfold ji
 refine (oD (p := a.ID.Session = b.ID.Session ∧ a.ID.Seq = b.ID.Seq) (q := a.Epoch = b.Epoch ∧ a.Gets.length = b.Gets.length ∧ a.Scans.length = b.Scans.length ∧ a.Puts.length = b.Puts.length ∧ a.Data = b.Data ∧ a.Gets.map cf = b.Gets.map cf ∧ a.Scans.map oT = b.Scans.map oT ∧ a.Puts.map cf = b.Puts.map cf) ?_ fun _ => oD (Ew _ _) fun _ => oD (xV _ _) fun hg => oD (xV _ _) fun hs => oD (xV _ _) fun hp => oD (by rw [Fb a10 b10]) fun _ => ?_).trans ?_
 ·exact congrArg _ (tZ (by simp))
 ·have e1 : bA (fW a b) (0:Int) = some (bif tr (a.Gets.map cf = b.Gets.map cf) then Sum.inl () else Sum.inr false) := by
   refine qu (body := fW a b) _ _ cf a.Gets b.Gets hg (by omega) (fun i hi => ?_) ?_
   ·have hi' : i < b.Gets.length := hg ▸ hi
    have e1 : decide ((i : Int) < (a.Gets.length : Int)) = true := by simpa using hi
    simp only [fW, e1, cond_true, br hi, br hi', Option.bind_some, tU (a4 _ (List.getElem_mem hi)) (b4 _ (List.getElem_mem hi')), bB, Option.map_some]
    exact Bc
   ·simp [fW, bB]
  have e2 : bA (fU a b) (0:Int) = some (bif tr (a.Scans.map oT = b.Scans.map oT) then Sum.inl () else Sum.inr false) := by
   refine qu (body := fU a b) _ _ oT a.Scans b.Scans hs (by omega) (fun i hi => ?_) ?_
   ·have hi' : i < b.Scans.length := hs ▸ hi
    have e1 : decide ((i : Int) < (a.Scans.length : Int)) = true := by simpa using hi
    simp only [fU, e1, cond_true, br hi, br hi', Option.bind_some, tU (a5 _ (List.getElem_mem hi)).1 (b5 _ (List.getElem_mem hi')).1, tU (a5 _ (List.getElem_mem hi)).2 (b5 _ (List.getElem_mem hi')).2, bB, Option.map_some]
    rw [stp Bc]
    exact cond_congr (by simp [oT])
   ·simp [fU, bB]
  have e3 : bA (gf a b) (0:Int) = some (tr (a.Puts.map cf = b.Puts.map cf)) := by
   refine (qu (body := gf a b) true false cf a.Puts b.Puts hp (by omega) (fun i hi => ?_) ?_).trans (congrArg some xq)
   ·have hi' : i < b.Puts.length := hp ▸ hi
    have e1 : decide ((i : Int) < (a.Puts.length : Int)) = true := by simpa using hi
    simp only [gf, e1, cond_true, br hi, br hi', Option.bind_some, tU (a6 _ (List.getElem_mem hi)) (b6 _ (List.getElem_mem hi')), bB, Option.map_some]
    exact Bc
   ·simp [gf, bB]
  rw [e1]
  refine Cm (R := Unit) fun _ => ?_
  unfold lE
  rw [e2]
  exact Cm (R := Unit) fun _ => e3
 ·refine congrArg _ (lP ?_)
  simp only [mR, ap.mk.injEq, bO.mk.injEq]
  constructor
  ·rintro ⟨h1, h2, _, _, _, h3, h4, h5, h6⟩
   exact ⟨(id_eq _ _).1 h1, h2, h4, h5, h6, h3⟩
  ·rintro ⟨h1, h2, h4, h5, h6, h3⟩
   exact ⟨(id_eq _ _).2 h1, h2, by simpa using congrArg List.length h4, by simpa using congrArg List.length h5, by simpa using congrArg List.length h6, h3, h4, h5, h6⟩
end Go.Proofs.YtgnkkopjkgdieaaGreat

end
section
set_option linter.unusedVariables false
set_option linter.unusedSimpArgs false
set_option maxRecDepth 100000
namespace Go.Proofs.YtgnkkopjkgdieaaGreat
open Go Go.V
def TP {α : Type} (f : ao → Option (α × ao)) (P : α → Prop) : Prop := ∀ t, pE t → ∃ x t', f t = some (x, t') ∧ P x ∧ pE t'
theorem TP.ret {α : Type} {P : α → Prop} {x : α} (h : P x) : TP (fun r => some (x, r)) P := fun r hr => ⟨x, r, rfl, h, hr⟩
theorem TP.bind {α β : Type} {f : ao → Option (α × ao)} {g : α × ao → Option (β × ao)} {P : α → Prop} {Q : β → Prop} (hf : TP f P) (hg : ∀ x, P x → TP (fun r => g (x, r)) Q) : TP (fun r => (f r).bind g) Q := fun r hr => by
 obtain ⟨x, r', h1, h2, h3⟩ := hf r hr
 obtain ⟨y, r2, k1, k2, k3⟩ := hg x h2 r' h3
 exact ⟨y, r2, by show (f r).bind g = _; rw [h1, Option.bind_some]; exact k1, k2, k3⟩
theorem TP.of {α : Type} {f g : ao → Option (α × ao)} {P : α → Prop} (h : ∀ r, f r = g r) (hg : TP g P) : TP f P := fun r hr => by rw [h]; exact hg r hr
theorem TP.imp {α : Type} {f : ao → Option (α × ao)} {P Q : α → Prop} (hf : TP f P) (h : ∀ x, P x → Q x) : TP f Q := fun r hr => by
 obtain ⟨x, r', h1, h2, h3⟩ := hf r hr
 exact ⟨x, r', h1, h x h2, h3⟩
theorem TP.next (n : Int) (h : 0 < n := by decide) (h2 : n ≤ 1000000000 := by decide) : TP (fun t => aK t n) (fun v => 0 ≤ v ∧ v < n) := fun t ht => by
 obtain ⟨v, t', a, b, c, d, _⟩ := Ai ht h h2
 exact ⟨v, t', a, ⟨b, c⟩, d⟩
def isN (x : Nat) : Prop := isF x ∧ cf x = x
theorem TP.float : TP (fun t => cV t) isN := fun t ht => by
 obtain ⟨f, t', a, b, c⟩ := zd ht
 exact ⟨f, t', a, ⟨b.1, Ax b.1 b.2⟩, c⟩
section
variable {α S R : Type} {body : S → Option (S ⊕ R)} (st : ao → List α → Int → S) (out : ao → List α → R) {F : Int → ao → Option (α × ao)}
theorem TP.loop {P : α → Prop} (n : Int) (hn : n ≤ 1000000) (h0 : 0 ≤ n) (hF : ∀ i, 0 ≤ i → i < n → TP (F i) P)
  (hb : ∀ r acc i, i < n → body (st r acc i) = (F i r).bind fun t => gd (room acc [t.1]) (some (Sum.inl (st t.2 (acc ++ [t.1]) (IntKind.i64.wrap (i + (1:Int)))))))
  (hend : ∀ r acc i, ¬ i < n → body (st r acc i) = some (Sum.inr (out r acc))) (r : ao) (hr : pE r) :
  ∃ r' acc, bA body (st r [] (0:Int)) = some (out r' acc) ∧ pE r' ∧ (∀ x ∈ acc, P x) ∧ (acc.length : Int) ≤ n := by
 have key : ∀ (k : Nat) (r : ao) (acc : List α) (i : Int), pE r → (acc.length : Int) = i → i ≤ n → (∀ x ∈ acc, P x) → (n - i).toNat ≤ k → ∃ r' acc', bA body (st r acc i) = some (out r' acc') ∧ pE r' ∧ (∀ x ∈ acc', P x) ∧ (acc'.length : Int) ≤ n := by
  intro k
  induction k with
  | zero =>
   intro r acc i hr ha hi hP hk
   have hni : ¬ i < n := by omega
   exact ⟨r, acc, by rw [eD, hend r acc i hni]; rfl, hr, hP, by omega⟩
  | succ k ih =>
   intro r acc i hr ha hi hP hk
   by_cases hlt : i < n
   ·obtain ⟨x, r', h1, h2, h3⟩ := hF i (by omega) hlt r hr
    have e1 : IntKind.i64.wrap (i + (1:Int)) = i + 1 := by rw [wrap_i64] <;> omega
    obtain ⟨r2, acc2, g1, g2, g3, g4⟩ := ih r' (acc ++ [x]) (i + 1) h3 (by simp only [List.length_append, List.length_cons, List.length_nil]; omega) (by omega) (fun y hy => by
     rcases List.mem_append.1 hy with hy | hy
     ·exact hP y hy
     ·cases List.mem_singleton.1 hy; exact h2) (by omega)
    refine ⟨r2, acc2, ?_, g2, g3, g4⟩
    rw [eD, hb r acc i hlt, h1, Option.bind_some, dh (jF (by simp only [List.length_cons, List.length_nil]; omega)), e1]
    exact g1
   ·exact ⟨r, acc, by rw [eD, hend r acc i hlt]; rfl, hr, hP, by omega⟩
 exact key (n - 0).toNat r [] 0 hr rfl h0 (fun x hx => by cases hx) (Nat.le_refl _)
theorem TP.tg {γ : Type} {P : α → Prop} {Q : γ → Prop} {fin : R → Option (γ × ao)} (n : Int) (hn : n ≤ 1000000) (h0 : 0 ≤ n) (hF : ∀ i, 0 ≤ i → i < n → TP (F i) P)
  (hb : ∀ r acc i, i < n → body (st r acc i) = (F i r).bind fun t => gd (room acc [t.1]) (some (Sum.inl (st t.2 (acc ++ [t.1]) (IntKind.i64.wrap (i + (1:Int)))))))
  (hend : ∀ r acc i, ¬ i < n → body (st r acc i) = some (Sum.inr (out r acc)))
  (hfin : ∀ acc, (∀ x ∈ acc, P x) → (acc.length : Int) ≤ n → TP (fun r => fin (out r acc)) Q) : TP (fun r => (bA body (st r [] (0:Int))).bind fin) Q := fun r hr => by
 obtain ⟨r', acc, h1, h2, h3, h4⟩ := TP.loop st out n hn h0 hF hb hend r hr
 obtain ⟨y, r2, k1, k2, k3⟩ := hfin acc h3 h4 r' h2
 exact ⟨y, r2, by show (bA body (st r [] (0:Int))).bind fin = _; rw [h1, Option.bind_some]; exact k1, k2, k3⟩
end
theorem TP.val : TP (fun t => eQ t) (fun l => l.length ≤ 3 ∧ U8s l) := by
 refine TP.of (g := fun t => (aK t (4:Int)).bind fun u => (bA (fP u) (u.2, [], (0:Int))).bind fun s => some s) (fun t => bnd fun u => (tH _).symm) ?_
 refine TP.bind (TP.next 4) fun n hn r hr => ?_
 refine TP.tg (P := zg) (body := fP (n, r)) (F := fun _ t => (aK t (26:Int)).bind fun u => some (IntKind.u8.wrap (IntKind.i64.wrap ((97:Int) + u.1)), u.2)) (fun t acc i => (t, acc, i)) (fun t acc => (acc, t)) n (by omega) hn.1 (fun i _ _ => ?_) (fun t acc i hi => ?_) (fun t acc i hi => ?_) (fun acc h1 h2 => ?_) r hr
 ·refine TP.bind (TP.next 26) fun v hv => ?_
  dsimp only
  have e1 : IntKind.i64.wrap ((97:Int) + v) = 97 + v := by rw [wrap_i64] <;> omega
  have e2 : IntKind.u8.wrap (97 + v) = 97 + v := by rw [wrap_u8] <;> omega
  rw [e1, e2]
  exact TP.ret ⟨by omega, by omega⟩
 ·have e : decide (i < n) = true := by simpa using hi
  simp only [fP, e, cond_true, Option.bind_assoc, Option.bind_some]
 ·have e : decide (i < n) = false := by simpa using hi
  simp only [fP, e, cond_false, bB, Option.map_some]
 ·exact TP.ret ⟨by omega, h1⟩
theorem Fa {m : Nat} {v : Int} (h0 : 0 ≤ v) (h : v < ((256 ^ m : Nat) : Int)) : isU m v := ⟨h0, h⟩
theorem map_id' {β : Type} {l : List β} {f : β → β} (h : ∀ x ∈ l, f x = x) : l.map f = l := by
 induction l with
 | nil => rfl
 | cons x l ih => rw [List.map_cons, h x (by simp), ih fun y hy => h y (by simp [hy])]
theorem sL {v : Int} (h0 : 0 ≤ v) (h : v < 256) : isU 8 (IntKind.u64.wrap v) := by rw [mP h0 (by omega)]; exact ⟨h0, by rw [pw8]; omega⟩
theorem qO {v : Int} (h0 : 0 ≤ v) (h : v < 256) : isU 8 (IntKind.u64.wrap (IntKind.i64.wrap ((1:Int) + v))) := by
 have e : IntKind.i64.wrap ((1:Int) + v) = 1 + v := by rw [wrap_i64] <;> omega
 rw [e, mP (by omega) (by omega)]
 exact ⟨by omega, by rw [pw8]; omega⟩
theorem TP.of_ : TP (fun t => eG t) idG := by
 refine TP.bind (TP.next 4) fun a ha => ?_
 dsimp only
 refine TP.bind (TP.next 4) fun b hb => ?_
 dsimp only
 exact TP.ret (P := idG) ⟨sL ha.1 (by omega), qO hb.1 (by omega)⟩
theorem half {v : Int} (h : 0 ≤ v ∧ v < 3) : 0 ≤ IntKind.i64.wrap (Int.tdiv v 2) ∧ IntKind.i64.wrap (Int.tdiv v 2) ≤ 1 := by
 have : v = 0 ∨ v = 1 ∨ v = 2 := by omega
 rcases this with rfl | rfl | rfl <;> decide
def Es (h : ap) : Prop := ia h ∧ mR h = h
theorem CD {l : List Nat} (h : ∀ x ∈ l, isN x) : l.map cf = l := by
 rw [List.map_congr_left (g := id) fun x hx => (h x hx).2, List.map_id]
def rt : ao := { L := [], I := 0 }
theorem DC (t : ao) : iA t = (eG t).bind fun id => (aK id.2 (4:Int)).bind fun ep => (aK ep.2 (3:Int)).bind fun n => (bA (fG (n.1, rt)) ([], n.2, (0:Int))).bind fun s => (aK s.1 (3:Int)).bind fun m => (bA (fC (m.1, rt)) ([], m.2, (0:Int))).bind fun s2 => (aK s2.1 (3:Int)).bind fun k => (bA (fF (k.1, rt)) ([], k.2, (0:Int))).bind fun s3 => (aK s3.1 (4:Int)).bind fun d => (bif d.1 == (0:Int) then eQ d.2 else some ([], d.2)).bind fun v => some (({ ID := id.1, Epoch := IntKind.u64.wrap (IntKind.i64.wrap ((1:Int) + ep.1)), Gets := s.2, Scans := s2.2, Puts := s3.2, Data := v.1 } : ap), v.2) := by
 unfold iA
 refine bnd fun id => bnd fun ep => bnd fun n => bnd ?_
 rintro ⟨t1, g⟩
 refine bnd fun m => bnd ?_
 rintro ⟨t2, s⟩
 refine bnd fun k => bnd ?_
 rintro ⟨t3, p⟩
 refine bnd fun d => ?_
 cases d.1 == (0:Int) <;> rfl
theorem TP.hold : TP (fun t => iA t) Es := by
 refine TP.of DC ?_
 refine TP.bind TP.of_ fun id hid => ?_
 dsimp only
 refine TP.bind (TP.next 4) fun ep hep => ?_
 dsimp only
 refine TP.bind (TP.next 3) fun n hn => ?_
 dsimp only
 refine TP.tg (P := isN) (body := fG (n, rt)) (F := fun _ t => cV t) (fun t acc i => (acc, t, i)) (fun t acc => (t, acc)) n (by omega) hn.1 (fun i _ _ => TP.float) (fun t acc i hi => ?_) (fun t acc i hi => ?_) (fun gets g1 g2 => ?_)
 ·have e : decide (i < n) = true := by simpa using hi
  simp only [fG, e, cond_true]
 ·have e : decide (i < n) = false := by simpa using hi
  simp only [fG, e, cond_false, bB, Option.map_some]
 dsimp only
 refine TP.bind (TP.next 3) fun m hm => ?_
 dsimp only
 obtain ⟨q1, q2⟩ := half hm
 refine TP.tg (P := fun x : Nat × Nat => isN x.1 ∧ isN x.2) (body := fC (m, rt)) (F := fun _ t => (cV t).bind fun a => (cV a.2).bind fun b => some ((a.1, b.1), b.2)) (fun t acc i => (acc, t, i)) (fun t acc => (t, acc)) (IntKind.i64.wrap (Int.tdiv m 2)) (by omega) q1 (fun i _ _ => ?_) (fun t acc i hi => ?_) (fun t acc i hi => ?_) (fun scans s1 s2 => ?_)
 ·refine TP.bind TP.float fun a ha => ?_
  dsimp only
  refine TP.bind TP.float fun b hb => ?_
  dsimp only
  exact TP.ret (P := fun x : Nat × Nat => isN x.1 ∧ isN x.2) ⟨ha, hb⟩
 ·have e : decide (i < IntKind.i64.wrap (Int.tdiv m 2)) = true := by simpa using hi
  simp only [fC, e, cond_true, Option.bind_assoc, Option.bind_some]
 ·have e : decide (i < IntKind.i64.wrap (Int.tdiv m 2)) = false := by simpa using hi
  simp only [fC, e, cond_false, bB, Option.map_some]
 dsimp only
 refine TP.bind (TP.next 3) fun k hk => ?_
 dsimp only
 refine TP.tg (P := isN) (body := fF (k, rt)) (F := fun _ t => cV t) (fun t acc i => (acc, t, i)) (fun t acc => (t, acc)) k (by omega) hk.1 (fun i _ _ => TP.float) (fun t acc i hi => ?_) (fun t acc i hi => ?_) (fun puts p1 p2 => ?_)
 ·have e : decide (i < k) = true := by simpa using hi
  simp only [fF, e, cond_true]
 ·have e : decide (i < k) = false := by simpa using hi
  simp only [fF, e, cond_false, bB, Option.map_some]
 dsimp only
 refine TP.bind (TP.next 4) fun d hd => ?_
 dsimp only
 refine TP.bind (P := fun l => l.length ≤ 3 ∧ U8s l) ?_ fun v hv => ?_
 ·cases d == (0:Int) with
  | true => exact TP.val
  | false => exact TP.ret ⟨by decide, U8s.nil⟩
 dsimp only
 refine TP.ret (P := Es) ⟨⟨hid.1, hid.2, qO hep.1 (by omega), fun x hx => (g1 x hx).1, fun x hx => ⟨(s1 x hx).1.1, (s1 x hx).2.1⟩, fun x hx => (p1 x hx).1, ?_, ?_, ?_, ?_, hv.2⟩, ?_⟩
 ·show gets.length ≤ 32; omega
 ·show scans.length ≤ 32; omega
 ·show puts.length ≤ 32; omega
 ·show v.length ≤ 257; omega
 ·have e : scans.map oT = scans := by
   rw [List.map_congr_left (g := _root_.id) fun x hx => by show (cf x.1, cf x.2) = x; rw [(s1 x hx).1.2, (s1 x hx).2.2], List.map_id]
  simp only [mR, CD g1, CD p1, e]
def AH (l : List bR) : Prop := qQ l ∧ qZ l = l
theorem TP.writes : TP (fun t => fv t) AH := by
 refine TP.of (g := fun t => (aK t (3:Int)).bind fun u => (bA (fQ (u.1, rt)) (u.2, [], (0:Int))).bind fun s => some s) (fun t => bnd fun u => (tH _).symm) ?_
 refine TP.bind (TP.next 3) fun n hn => ?_
 dsimp only
 refine TP.tg (P := fun x => ze x ∧ xB x = x) (body := fQ (n, rt)) (F := fun _ t => (cV t).bind fun f => (aK f.2 (4:Int)).bind fun d => (bif !(d.1 == (0:Int)) then eQ d.2 else some ([], d.2)).bind fun v => some (({ At := f.1, Del := d.1 == (0:Int), Val := v.1 } : bR), v.2)) (fun t acc i => (t, acc, i)) (fun t acc => (acc, t)) n (by omega) hn.1 (fun i _ _ => ?_) (fun t acc i hi => ?_) (fun t acc i hi => ?_) (fun acc h1 h2 => ?_)
 ·refine TP.bind TP.float fun f hf => ?_
  dsimp only
  refine TP.bind (TP.next 4) fun d hd => ?_
  dsimp only
  refine TP.bind (P := fun l => l.length ≤ 3 ∧ U8s l) ?_ fun v hv => ?_
  ·cases !(d == (0:Int)) with
   | true => exact TP.val
   | false => exact TP.ret ⟨by decide, U8s.nil⟩
  dsimp only
  refine TP.ret (P := fun x => ze x ∧ xB x = x) ⟨⟨hf.1, ?_, hv.2⟩, ?_⟩
  ·show v.length ≤ 256; omega
  ·simp only [xB, hf.2]
 ·have e : decide (i < n) = true := by simpa using hi
  simp only [fQ, e, cond_true, Option.bind_assoc]
  refine bnd fun f => bnd fun d => ?_
  cases !(d.1 == (0:Int)) with
  | true => simp only [cond_true, Option.bind_assoc]; exact bnd fun v => rfl
  | false => rfl
 ·have e : decide (i < n) = false := by simpa using hi
  simp only [fQ, e, cond_false, bB, Option.map_some]
 ·refine TP.ret (P := AH) ⟨⟨by omega, fun x hx => (h1 x hx).1⟩, ?_⟩
  rw [qZ, List.map_congr_left (g := _root_.id) fun x hx => (h1 x hx).2, List.map_id]
def CJ (x : bw) : Prop := vm x ∧ ue x = x
theorem Be (t : ao) : hH t = (aK t (6:Int)).bind fun e => (df ([(0:Int), (0:Int), (0:Int), (8:Int), (9:Int), (3:Int)]) e.1).bind fun x => (aK e.2 (4:Int)).bind fun p => (aK p.2 (9:Int)).bind fun q => (aK q.2 (3:Int)).bind fun n => (bA (gR (n.1, rt)) ([], n.2, (0:Int))).bind fun s => (aK s.1 (3:Int)).bind fun m => (bA (gV (m.1, rt) x (IntKind.u64.wrap p.1) (IntKind.u64.wrap q.1) s.2) ([], m.2, (0:Int))).bind fun s => some s := by
 simp only [hH, Option.bind_assoc, Option.bind_some, mh]
 refine bnd fun e => bnd fun x => bnd fun p => bnd fun q => bnd fun n => bnd ?_
 rintro ⟨t1, g⟩
 exact bnd fun m => (tH _).symm
theorem TP.Ar : TP (fun t => hH t) CJ := by
 refine TP.of Be ?_
 refine TP.bind (TP.next 6) fun e he => ?_
 dsimp only
 have hg : ∃ x : Int, df ([(0:Int), (0:Int), (0:Int), (8:Int), (9:Int), (3:Int)]) e = some x ∧ isU 1 x := by
  have : e = 0 ∨ e = 1 ∨ e = 2 ∨ e = 3 ∨ e = 4 ∨ e = 5 := by omega
  rcases this with rfl | rfl | rfl | rfl | rfl | rfl <;> exact ⟨_, rfl, by decide, by decide⟩
 obtain ⟨x, hx, hx1⟩ := hg
 simp only [hx, Option.bind_some]
 refine TP.bind (TP.next 4) fun p hp => ?_
 dsimp only
 refine TP.bind (TP.next 9) fun q hq => ?_
 dsimp only
 refine TP.bind (TP.next 3) fun n hn => ?_
 dsimp only
 refine TP.tg (P := EG) (body := gR (n, rt)) (F := fun _ t => (aK t (2:Int)).bind fun a => (eQ a.2).bind fun v => some (({ Has := a.1 == (0:Int), Val := v.1 } : ct), v.2)) (fun t acc i => (acc, t, i)) (fun t acc => (t, acc)) n (by omega) hn.1 (fun i _ _ => ?_) (fun t acc i hi => ?_) (fun t acc i hi => ?_) (fun gots g1 g2 => ?_)
 ·refine TP.bind (TP.next 2) fun a ha => ?_
  dsimp only
  refine TP.bind TP.val fun v hv => ?_
  dsimp only
  exact TP.ret (P := EG) ⟨by show v.length ≤ 256; omega, hv.2⟩
 ·have e : decide (i < n) = true := by simpa using hi
  simp only [gR, e, cond_true, Option.bind_assoc, Option.bind_some]
 ·have e : decide (i < n) = false := by simpa using hi
  simp only [gR, e, cond_false, bB, Option.map_some]
 dsimp only
 refine TP.bind (TP.next 3) fun m hm => ?_
 dsimp only
 obtain ⟨q1, q2⟩ := half hm
 refine TP.tg (P := fun l => zz l ∧ va l = l) (body := gV (m, rt) x (IntKind.u64.wrap p) (IntKind.u64.wrap q) gots) (F := fun _ t => (aK t (3:Int)).bind fun k => (bA (gL (k.1, rt)) (k.2, (0:Int), [])).bind fun s => some (s.2, s.1)) (fun t acc i => (acc, t, i)) (fun t acc => (({ E := x, Epoch := IntKind.u64.wrap p, Index := IntKind.u64.wrap q, Gots := gots, Scans := acc } : bw), t)) (IntKind.i64.wrap (Int.tdiv m 2)) (by omega) q1 (fun i _ _ => ?_) (fun t acc i hi => ?_) (fun t acc i hi => ?_) (fun scans s1 s2 => ?_)
 ·refine TP.bind (TP.next 3) fun k hk => ?_
  dsimp only
  refine TP.tg (P := fun y => Cv y ∧ AF y = y) (body := gL (k, rt)) (F := fun _ t => (cV t).bind fun f => (eQ f.2).bind fun v => some (({ At := f.1, Val := v.1 } : bQ), v.2)) (fun t acc i => (t, i, acc)) (fun t acc => (t, acc)) k (by omega) hk.1 (fun i _ _ => ?_) (fun t acc i hi => ?_) (fun t acc i hi => ?_) (fun l l1 l2 => ?_)
  ·refine TP.bind TP.float fun f hf => ?_
   dsimp only
   refine TP.bind TP.val fun v hv => ?_
   dsimp only
   exact TP.ret (P := fun y => Cv y ∧ AF y = y) ⟨⟨hf.1, by show v.length ≤ 256; omega, hv.2⟩, by simp only [AF, hf.2]⟩
  ·have e : decide (i < k) = true := by simpa using hi
   simp only [gL, e, cond_true, Option.bind_assoc, Option.bind_some]
  ·have e : decide (i < k) = false := by simpa using hi
   simp only [gL, e, cond_false, bB, Option.map_some]
  ·refine TP.ret (P := fun l => zz l ∧ va l = l) ⟨⟨by omega, fun y hy => (l1 y hy).1⟩, ?_⟩
   rw [va, List.map_congr_left (g := _root_.id) fun y hy => (l1 y hy).2, List.map_id]
 ·have e : decide (i < IntKind.i64.wrap (Int.tdiv m 2)) = true := by simpa using hi
  simp only [gV, e, cond_true, Option.bind_assoc, Option.bind_some]
  refine bnd fun k => bnd ?_
  rintro ⟨t1, l⟩
  rfl
 ·have e : decide (i < IntKind.i64.wrap (Int.tdiv m 2)) = false := by simpa using hi
  simp only [gV, e, cond_false, bB, Option.map_some]
 ·refine TP.ret (P := CJ) ⟨⟨hx1, sL hp.1 (by omega), sL hq.1 (by omega), g1, fun l hl => (s1 l hl).1, ?_, ?_⟩, ?_⟩
  ·show gots.length ≤ 32; omega
  ·show scans.length ≤ 32; omega
  ·have e1 : gots.map FE = gots := map_id' fun y _ => rfl
   have e2 : scans.map va = scans := by rw [List.map_congr_left (g := _root_.id) fun y hy => (s1 y hy).2, List.map_id]
   simp only [ue, e1, e2]
end Go.Proofs.YtgnkkopjkgdieaaGreat

end
section
set_option linter.unusedVariables false
set_option linter.unusedSimpArgs false
set_option maxRecDepth 100000
namespace Go.Proofs.YtgnkkopjkgdieaaGreat
open Go Go.V
def Ev (x : du) : Prop := Ae x ∧ wP x = x
theorem TP.jT : TP (fun t => kI t) Ev := by
 refine TP.bind (TP.next 3) fun a ha => ?_
 dsimp only
 refine TP.bind (TP.next 4) fun b hb => ?_
 dsimp only
 refine TP.bind (TP.next 4) fun c hc => ?_
 dsimp only
 refine TP.bind TP.float fun lo hlo => ?_
 dsimp only
 refine TP.bind TP.float fun hi hhi => ?_
 dsimp only
 refine TP.bind (TP.next 2) fun d hd => ?_
 dsimp only
 refine TP.bind (TP.next 3) fun e he => ?_
 dsimp only
 have hb1 : isU 1 b := ⟨hb.1, by rw [pw1]; omega⟩
 have hc1 : isU 1 c := ⟨hc.1, by rw [pw1]; omega⟩
 have he1 : isU 4 e := ⟨he.1, by rw [pw4]; omega⟩
 exact TP.ret (P := Ev) ⟨⟨sL ha.1 (by omega), hb1, hc1, hlo.1, hhi.1, sL hd.1 (by omega), he1⟩, by simp only [wP, hlo.2, hhi.2]⟩
def xK (c : aH) : Prop := BB c ∧ Fi c = c
theorem zS (t : ao) : eY t = (aK t (7:Int)).bind fun a =>
  bif (IntKind.u8.wrap (IntKind.i64.wrap ((1:Int) + a.1))) == (1:Int) then (aK a.2 (4:Int)).bind fun p => some ({ zC with Kind := IntKind.u8.wrap (IntKind.i64.wrap ((1:Int) + a.1)), Epoch := IntKind.u64.wrap (IntKind.i64.wrap ((1:Int) + p.1)) }, p.2) else
  bif (IntKind.u8.wrap (IntKind.i64.wrap ((1:Int) + a.1))) == (2:Int) then (iA a.2).bind fun h => some ({ zC with Kind := IntKind.u8.wrap (IntKind.i64.wrap ((1:Int) + a.1)), Hold := h.1 }, h.2) else
  bif (IntKind.u8.wrap (IntKind.i64.wrap ((1:Int) + a.1))) == (3:Int) then (eG a.2).bind fun i => (aK i.2 (3:Int)).bind fun e => (df ([(0:Int), (0:Int), (8:Int)]) e.1).bind fun x => (aK e.2 (4:Int)).bind fun p => (aK p.2 (20:Int)).bind fun q => (fv q.2).bind fun w => some ({ zC with Kind := IntKind.u8.wrap (IntKind.i64.wrap ((1:Int) + a.1)), ID := i.1, Epoch := IntKind.u64.wrap (IntKind.i64.wrap ((1:Int) + p.1)), Index := IntKind.u64.wrap q.1, E := x, Writes := w.1 }, w.2) else
  bif (IntKind.u8.wrap (IntKind.i64.wrap ((1:Int) + a.1))) == (4:Int) then (eG a.2).bind fun i => (aK i.2 (6:Int)).bind fun b => (aK b.2 (4:Int)).bind fun p => (aK p.2 (4:Int)).bind fun q => (aK q.2 (3:Int)).bind fun n => (bA (dT (n.1, rt)) ([], n.2, (0:Int))).bind fun s => (hH s.1).bind fun x => some ({ zC with Kind := IntKind.u8.wrap (IntKind.i64.wrap ((1:Int) + a.1)), ID := { Session := bif b.1 == (0:Int) then IntKind.u64.wrap (i.1.Session + (9223372036854775808:Int)) else i.1.Session, Seq := i.1.Seq }, Epoch := IntKind.u64.wrap (IntKind.i64.wrap ((1:Int) + p.1)), Shards := IntKind.u64.wrap q.1, Parts := s.2, R := x.1 }, x.2) else
  bif (IntKind.u8.wrap (IntKind.i64.wrap ((1:Int) + a.1))) == (5:Int) then (eG a.2).bind fun i => some ({ zC with Kind := IntKind.u8.wrap (IntKind.i64.wrap ((1:Int) + a.1)), ID := i.1 }, i.2) else
  bif (IntKind.u8.wrap (IntKind.i64.wrap ((1:Int) + a.1))) == (6:Int) then (kI a.2).bind fun r => (aK r.2 (3:Int)).bind fun o => some ({ zC with Kind := IntKind.u8.wrap (IntKind.i64.wrap ((1:Int) + a.1)), Rule := r.1, On := decide (o.1 > (0:Int)) }, o.2) else
  bif (IntKind.u8.wrap (IntKind.i64.wrap ((1:Int) + a.1))) == (7:Int) then (eG a.2).bind fun i => (aK i.2 (4:Int)).bind fun p => (kI p.2).bind fun r => (fv r.2).bind fun w => (hH w.2).bind fun x => some ({ zC with Kind := IntKind.u8.wrap (IntKind.i64.wrap ((1:Int) + a.1)), ID := i.1, Epoch := IntKind.u64.wrap (IntKind.i64.wrap ((1:Int) + p.1)), Rule := r.1, Writes := w.1, R := x.1 }, x.2) else
  some ({ zC with Kind := IntKind.u8.wrap (IntKind.i64.wrap ((1:Int) + a.1)) }, a.2) := by
 unfold eY
 refine bnd fun a => ?_
 generalize hk : IntKind.u8.wrap (IntKind.i64.wrap ((1:Int) + a.1)) = k
 cases k == (1:Int) with
 | true => rfl
 | false =>
 cases k == (2:Int) with
 | true => rfl
 | false =>
 cases k == (3:Int) with
 | true => rfl
 | false =>
 cases k == (4:Int) with
 | true =>
  simp only [cond_true, cond_false, Option.bind_assoc]
  refine bnd fun i => bnd fun b => ?_
  cases b.1 == (0:Int) with
  | true =>
   simp only [cond_true, Option.bind_some, jg]
   refine bnd fun p => bnd fun q => bnd fun n => bnd ?_
   rintro ⟨t1, l⟩
   subst hk; rfl
  | false =>
   simp only [cond_false, Option.bind_some, jg]
   refine bnd fun p => bnd fun q => bnd fun n => bnd ?_
   rintro ⟨t1, l⟩
   subst hk; rfl
 | false =>
 cases k == (5:Int) with
 | true => rfl
 | false =>
 cases k == (6:Int) with
 | true => rfl
 | false =>
 cases k == (7:Int) with
 | true => rfl
 | false => rfl
theorem TP.command : TP (fun t => eY t) xK := by
 refine TP.of zS ?_
 refine TP.bind (TP.next 7) fun a ha => ?_
 dsimp only
 have ek : IntKind.u8.wrap (IntKind.i64.wrap ((1:Int) + a)) = 1 + a := by
  rw [wrap_i64 (by omega) (by omega), wrap_u8] <;> omega
 rw [ek]
 have hh : ∀ h : ap, mR h = h → Fi { zC with Kind := 2, Hold := h } = { zC with Kind := 2, Hold := h } := fun h e => by simp only [Fi, if_true, if_false, Int.reduceEq, e]
 have : a = 0 ∨ a = 1 ∨ a = 2 ∨ a = 3 ∨ a = 4 ∨ a = 5 ∨ a = 6 := by omega
 rcases this with rfl | rfl | rfl | rfl | rfl | rfl | rfl
 ·refine TP.bind (TP.next 4) fun p hp => ?_
  dsimp only
  exact TP.ret (P := xK) ⟨⟨kd 1 (by decide), ⟨u0 8, u0 8⟩, qO hp.1 (by omega), u0 8, u0 1, Bn, BP, CB, u0 2, Nat.zero_le _, oK, Dh⟩, rfl⟩
 ·refine TP.bind TP.hold fun h hh => ?_
  dsimp only
  exact TP.ret (P := xK) ⟨⟨kd 2 (by decide), ⟨u0 8, u0 8⟩, u0 8, u0 8, u0 1, hh.1, BP, CB, u0 2, Nat.zero_le _, oK, Dh⟩, by show ({ zC with Kind := 2, Hold := mR h } : aH) = _; rw [hh.2]; rfl⟩
 ·refine TP.bind TP.of_ fun i hi => ?_
  dsimp only
  refine TP.bind (TP.next 3) fun e he => ?_
  dsimp only
  have hg : ∃ x : Int, df ([(0:Int), (0:Int), (8:Int)]) e = some x ∧ isU 1 x := by
   have : e = 0 ∨ e = 1 ∨ e = 2 := by omega
   rcases this with rfl | rfl | rfl <;> exact ⟨_, rfl, by decide, by decide⟩
  obtain ⟨x, hx, hx1⟩ := hg
  simp only [hx, Option.bind_some]
  refine TP.bind (TP.next 4) fun p hp => ?_
  dsimp only
  refine TP.bind (TP.next 20) fun q hq => ?_
  dsimp only
  refine TP.bind TP.writes fun w hw => ?_
  dsimp only
  exact TP.ret (P := xK) ⟨⟨kd 3 (by decide), hi, qO hp.1 (by omega), sL hq.1 (by omega), hx1, Bn, hw.1, CB, u0 2, Nat.zero_le _, oK, Dh⟩, by show ({ zC with Kind := 3, ID := cId i, E := x, Epoch := _, Index := _, Writes := qZ w } : aH) = _; rw [hw.2]; rfl⟩
 ·refine TP.bind TP.of_ fun i hi => ?_
  dsimp only
  refine TP.bind (TP.next 6) fun b hb => ?_
  dsimp only
  refine TP.bind (TP.next 4) fun p hp => ?_
  dsimp only
  refine TP.bind (TP.next 4) fun q hq => ?_
  dsimp only
  refine TP.bind (TP.next 3) fun n hn => ?_
  dsimp only
  refine TP.tg (P := fun y => Cx y ∧ yk y = y) (body := dT (n, rt)) (F := fun i t => (fv t).bind fun w => some (({ Shard := i, Writes := w.1 } : ee), w.2)) (fun t acc i => (acc, t, i)) (fun t acc => (t, acc)) n (by omega) hn.1 (fun j j0 j1 => ?_) (fun t acc i hi => ?_) (fun t acc i hi => ?_) (fun parts p1 p2 => ?_)
  ·refine TP.bind TP.writes fun w hw => ?_
   dsimp only
   exact TP.ret (P := fun y => Cx y ∧ yk y = y) ⟨⟨Fa (m := 1) j0 (by rw [pw1]; show j < 256; omega), hw.1⟩, by simp only [yk, hw.2]⟩
  ·have e : decide (i < n) = true := by simpa using hi
   simp only [dT, e, cond_true, Option.bind_assoc, Option.bind_some]
  ·have e : decide (i < n) = false := by simpa using hi
   simp only [dT, e, cond_false, bB, Option.map_some]
  dsimp only
  refine TP.bind TP.Ar fun x hx => ?_
  dsimp only
  have hid : idG { Session := bif b == (0:Int) then IntKind.u64.wrap (i.Session + (9223372036854775808:Int)) else i.Session, Seq := i.Seq } := by
   refine ⟨?_, hi.2⟩
   cases b == (0:Int) with
   | false => exact hi.1
   | true =>
    show isU 8 (IntKind.u64.wrap (i.Session + (9223372036854775808:Int)))
    rw [lM]
    exact ⟨by omega, by rw [pw8]; omega⟩
  have hq2 : isU 2 (IntKind.u64.wrap q) := by rw [mP (by omega) (by omega)]; exact ⟨hq.1, by rw [pw2]; omega⟩
  refine TP.ret (P := xK) ⟨⟨kd 4 (by decide), hid, qO hp.1 (by omega), u0 8, u0 1, Bn, BP, hx.1, hq2, ?_, fun y hy => (p1 y hy).1, Dh⟩, ?_⟩
  ·show parts.length ≤ 8; omega
  ·show ({ zC with Kind := 4, ID := _, Epoch := _, Shards := _, Parts := parts.map yk, R := ue x } : aH) = _
   rw [hx.2, map_id' fun y hy => (p1 y hy).2]; rfl
 ·refine TP.bind TP.of_ fun i hi => ?_
  dsimp only
  exact TP.ret (P := xK) ⟨⟨kd 5 (by decide), hi, u0 8, u0 8, u0 1, Bn, BP, CB, u0 2, Nat.zero_le _, oK, Dh⟩, rfl⟩
 ·refine TP.bind TP.jT fun r hr => ?_
  dsimp only
  refine TP.bind (TP.next 3) fun o ho => ?_
  dsimp only
  show TP (fun t => some (({ zC with Kind := 1 + 5, Rule := r, On := decide (o > (0:Int)) } : aH), t)) xK
  refine TP.ret (P := xK) ?_
  exact ⟨⟨kd 6 (by decide), ⟨u0 8, u0 8⟩, u0 8, u0 8, u0 1, Bn, BP, CB, u0 2, Nat.zero_le _, oK, hr.1⟩, by show ({ zC with Kind := 6, Rule := wP r, On := _ } : aH) = _; rw [hr.2]; rfl⟩
 ·refine TP.bind TP.of_ fun i hi => ?_
  dsimp only
  refine TP.bind (TP.next 4) fun p hp => ?_
  dsimp only
  refine TP.bind TP.jT fun r hr => ?_
  dsimp only
  refine TP.bind TP.writes fun w hw => ?_
  dsimp only
  refine TP.bind TP.Ar fun x hx => ?_
  dsimp only
  exact TP.ret (P := xK) ⟨⟨kd 7 (by decide), hi, qO hp.1 (by omega), u0 8, u0 1, Bn, hw.1, hx.1, u0 2, Nat.zero_le _, oK, hr.1⟩, by show ({ zC with Kind := 7, ID := cId i, Epoch := _, Rule := wP r, Writes := qZ w, R := ue x } : aH) = _; rw [hr.2, hw.2, hx.2]; rfl⟩
end Go.Proofs.YtgnkkopjkgdieaaGreat

end
section
set_option linter.unusedVariables false
set_option linter.unusedSimpArgs false
set_option maxRecDepth 100000
namespace Go.Proofs.YtgnkkopjkgdieaaGreat
open Go Go.V
theorem yE {x a b : Nat} (hx : isF x) (ha : isF a) (hb : isF b) : lj x a b = some (decide (aB a ≤ aB x) && decide (aB x ≤ aB b)) := by
 simp only [lj, pd ha, pd hx, pd hb, Option.bind_some]
 cases decide (aB a ≤ aB x) <;> rfl
theorem CH {x y : Nat} (hx : isF x) (hy : isF y) : iM x y = some (aB x == aB y) := by simp only [iM, pd hx, pd hy, Option.bind_some]
theorem BO {x a b : Nat} (hx : isF x) (ha : isF a) (hb : isF b) : jB x a b = some (decide (aB a ≤ aB x) && decide (aB x ≤ aB b)) := by
 simp only [jB, oE hx ha, oE hb hx, Option.bind_some]
 by_cases h1 : aB x < aB a
 ·have : ¬ aB a ≤ aB x := by omega
  simp [h1, this]
 ·by_cases h2 : aB b < aB x
  ·have : ¬ aB x ≤ aB b := by omega
   have h3 : aB a ≤ aB x := by omega
   simp [h1, h2, this]
  ·have h3 : aB x ≤ aB b := by omega
   have h4 : aB a ≤ aB x := by omega
   simp [h1, h2, h3, h4]
def xT (h : ap) (x : Nat) : Bool := h.Puts.any fun y => aB x == aB y
def ru (h : ap) (x : Nat) : Bool := (h.Gets.any fun y => aB x == aB y) || h.Scans.any fun s => decide (aB s.1 ≤ aB x) && decide (aB x ≤ aB s.2)
def mtB (a b : ap) : Bool := (a.Puts.any fun x => xT b x || ru b x) || b.Puts.any fun x => ru a x
theorem Bt {h : ap} (g : ia h) {x : Nat} (hx : isF x) : nE h x x = some (xT h x) := by
 obtain ⟨_, _, _, g4, g5, g6, l1, l2, l3, _⟩ := g
 obtain ⟨z, h1, h2⟩ := tW (body := jx h x x) h.Puts (fun y => aB x == aB y) (fun i hi => by
  have hy := g6 _ (List.getElem_mem hi)
  have e : (decide (aB x ≤ aB h.Puts[i]) && decide (aB h.Puts[i] ≤ aB x)) = (aB x == aB h.Puts[i]) := by
   rw [Bool.eq_iff_iff]
   simp only [Bool.and_eq_true, decide_eq_true_eq, beq_iff_eq]
   omega
  simp only [jx, gZ hi, cond_true, br hi, Option.bind_some, yE hy hx hx, e, bN (show i ≤ 4294967295 by omega)]
  cases aB x == aB h.Puts[i] <;> rfl) (by simp [jx, bB])
 simp only [nE, h1, Option.bind_some, h2]; rfl
theorem yf {h : ap} (g : ia h) {x : Nat} (hx : isF x) : np h x = some (ru h x) := by
 obtain ⟨_, _, _, g4, g5, g6, l1, l2, l3, _⟩ := g
 obtain ⟨z, h1, h2⟩ := tW (body := ki h x) h.Gets (fun y => aB x == aB y) (fun i hi => by
  have hy := g4 _ (List.getElem_mem hi)
  simp only [ki, gZ hi, cond_true, br hi, Option.bind_some, CH hx hy, bN (show i ≤ 4294967295 by omega)]
  cases aB x == aB h.Gets[i] <;> rfl) (by simp [ki, bB])
 obtain ⟨z', h3, h4⟩ := tW (body := kr h x) h.Scans (fun s => decide (aB s.1 ≤ aB x) && decide (aB x ≤ aB s.2)) (fun i hi => by
  have hy := g5 _ (List.getElem_mem hi)
  simp only [kr, gZ hi, cond_true, br hi, Option.bind_some, yE hx hy.1 hy.2, bN (show i ≤ 4294967295 by omega)]
  cases (decide (aB h.Scans[i].1 ≤ aB x) && decide (aB x ≤ aB h.Scans[i].2)) <;> rfl) (by simp [kr, bB])
 simp only [np, h1, h3, Option.bind_some, h2, h4, ru]
 cases h.Gets.any fun y => aB x == aB y <;> rfl
theorem Dw {a b : ap} (ga : ia a) (gb : ia b) : pH a b = some (mtB a b) := by
 have h1 := nJ (body := ln a b) a.Puts (fun x => xT b x || ru b x) (Sum.inr true) (Sum.inl ()) (fun i hi => by
  have hx := ga.2.2.2.2.2.1 _ (List.getElem_mem hi)
  simp only [ln, gZ hi, cond_true, br hi, Option.bind_some, Bt gb hx, yf gb hx, bN (show i ≤ 4294967295 by have := ga.2.2.2.2.2.2.2.2.1; omega)]
  cases xT b a.Puts[i] <;> cases ru b a.Puts[i] <;> rfl) (by simp [ln, bB])
 have h2 := nJ (body := lv b a) b.Puts (fun x => ru a x) true false (fun i hi => by
  have hx := gb.2.2.2.2.2.1 _ (List.getElem_mem hi)
  simp only [lv, gZ hi, cond_true, br hi, Option.bind_some, yf ga hx, bN (show i ≤ 4294967295 by have := gb.2.2.2.2.2.2.2.2.1; omega)]
  cases ru a b.Puts[i] <;> rfl) (by simp [lv, bB])
 simp only [pH, h1, mtB]
 cases a.Puts.any fun x => xT b x || ru b x with
 | true => rfl
 | false =>
  show mL b a () = _
  simp only [mL, h2]
  cases b.Puts.any fun x => ru a x <;> rfl
theorem CV {l : List Nat} (g : ∀ x ∈ l, isF x) (hl : l.length ≤ 1000) {x : Nat} (hx : isF x) : po l x = some (l.any fun y => aB x == aB y) := by
 have h1 := nJ (body := ma l x) l (fun y => aB x == aB y) true false (fun i hi => by
  have hy := g _ (List.getElem_mem hi)
  have e : decide (aB l[i] = aB x) = (aB x == aB l[i]) := by
   by_cases e1 : aB x = aB l[i]
   ·simp [e1]
   ·have : ¬ aB l[i] = aB x := fun h => e1 h.symm
    simp [e1, this]
  simp only [ma, gZ hi, cond_true, br hi, Option.bind_some, nO hy hx, e, bN (show i ≤ 4294967295 by omega)]
  cases aB x == aB l[i] <;> rfl) (by simp [ma, bB])
 rw [po, h1]
 cases l.any fun y => aB x == aB y <;> rfl
theorem xf {h : ap} (g : ia h) {x : Nat} (hx : isF x) : nr h x = some (ru h x) := by
 have g' := g
 obtain ⟨_, _, _, g4, g5, g6, l1, l2, l3, _⟩ := g
 have h1 := nJ (body := kg h x) h.Scans (fun s => decide (aB s.1 ≤ aB x) && decide (aB x ≤ aB s.2)) (Sum.inr true) (Sum.inl ()) (fun i hi => by
  have hy := g5 _ (List.getElem_mem hi)
  simp only [kg, gZ hi, cond_true, br hi, Option.bind_some, BO hx hy.1 hy.2, bN (show i ≤ 4294967295 by omega)]
  cases (decide (aB h.Scans[i].1 ≤ aB x) && decide (aB x ≤ aB h.Scans[i].2)) <;> rfl) (by simp [kg, bB])
 simp only [nr, h1, ru]
 cases h.Scans.any fun s => decide (aB s.1 ≤ aB x) && decide (aB x ≤ aB s.2) with
 | true => simp [iL]
 | false =>
  show lR h x () = _
  simp only [lR, CV g4 (by omega) hx, Option.bind_some, Bool.or_false]
theorem Ch {a b : ap} (ga : ia a) (gb : ia b) : pQ a b = some (mtB a b) := by
 have h1 := nJ (body := lm a b) a.Puts (fun x => xT b x || ru b x) (Sum.inr true) (Sum.inl ()) (fun i hi => by
  have hx := ga.2.2.2.2.2.1 _ (List.getElem_mem hi)
  simp only [lm, gZ hi, cond_true, br hi, Option.bind_some, CV gb.2.2.2.2.2.1 (by have := gb.2.2.2.2.2.2.2.2.1; omega) hx, xf gb hx, bN (show i ≤ 4294967295 by have := ga.2.2.2.2.2.2.2.2.1; omega)]
  show (bif xT b a.Puts[i] then _ else _) = _
  cases xT b a.Puts[i] <;> cases ru b a.Puts[i] <;> rfl) (by simp [lm, bB])
 have h2 := nJ (body := lq b a) b.Puts (fun x => ru a x) true false (fun i hi => by
  have hx := gb.2.2.2.2.2.1 _ (List.getElem_mem hi)
  simp only [lq, gZ hi, cond_true, br hi, Option.bind_some, xf ga hx, bN (show i ≤ 4294967295 by have := gb.2.2.2.2.2.2.2.2.1; omega)]
  cases ru a b.Puts[i] <;> rfl) (by simp [lq, bB])
 simp only [pQ, h1, mtB]
 cases a.Puts.any fun x => xT b x || ru b x with
 | true => rfl
 | false =>
  show mN b a () = _
  simp only [mN, h2]
  cases b.Puts.any fun x => ru a x <;> rfl
theorem pp {p q : Prop} {b : Bool} {X : Option Bool} (hb : b = tr p) (h : p → X = some (tr q)) : (bif b then X else some false) = some (tr (p ∧ q)) := by
 have := oD (p := p) (q := q) (b := !b) (X := X) (by rw [hb]) h
 rw [← this]; cases b <;> rfl
theorem uZ {x y : Nat} (hx : isF x) (hy : isF y) : iM x y = some (tr (cf x = cf y)) := by
 rw [CH hx hy]; exact congrArg some (tZ (by rw [El hx hy]; simp))
theorem BI {a b : ap} (ha : ia a) (hb : ia b) : oe a b = some (tr (mR a = mR b)) := by
 obtain ⟨_, _, _, a4, a5, a6, a7, a8, a9, a11, a10⟩ := ha
 obtain ⟨_, _, _, b4, b5, b6, b7, b8, b9, _, b10⟩ := hb
 have e1 : (bif ((a.Gets.length : Nat) : Int) != ((b.Gets.length : Nat) : Int) then some false else bA (jU a b) (0:Int)) = some (tr (a.Gets.map cf = b.Gets.map cf)) := by
  refine xy fun hl => (qu (body := jU a b) true false cf a.Gets b.Gets hl (by omega) (fun i hi => ?_) ?_).trans (congrArg some xq)
  ·have hi' : i < b.Gets.length := hl ▸ hi
   simp only [jU, gZ hi, cond_true, br hi, br hi', Option.bind_some, uZ (a4 _ (List.getElem_mem hi)) (b4 _ (List.getElem_mem hi')), bB, Option.map_some]
   exact Bc
  ·simp [jU, bB]
 have e2 : (bif ((a.Scans.length : Nat) : Int) != ((b.Scans.length : Nat) : Int) then some false else bA (jY a b) (0:Int)) = some (tr (a.Scans.map oT = b.Scans.map oT)) := by
  refine xy fun hl => (qu (body := jY a b) true false oT a.Scans b.Scans hl (by omega) (fun i hi => ?_) ?_).trans (congrArg some xq)
  ·have hi' : i < b.Scans.length := hl ▸ hi
   have g1 := a5 _ (List.getElem_mem hi)
   have g2 := b5 _ (List.getElem_mem hi')
   have e : nD a.Scans[i] b.Scans[i] = some (tr (oT a.Scans[i] = oT b.Scans[i])) := by
    simp only [nD, uZ g1.1 g2.1, uZ g1.2 g2.2, Option.bind_some]
    rw [pp rfl fun _ => rfl]
    exact congrArg some (lP (by simp [oT]))
   simp only [jY, gZ hi, cond_true, br hi, br hi', Option.bind_some, e, bB, Option.map_some]
   exact Bc
  ·simp [jY, bB]
 have e3 : (bif ((a.Puts.length : Nat) : Int) != ((b.Puts.length : Nat) : Int) then some false else bA (jX a b) (0:Int)) = some (tr (a.Puts.map cf = b.Puts.map cf)) := by
  refine xy fun hl => (qu (body := jX a b) true false cf a.Puts b.Puts hl (by omega) (fun i hi => ?_) ?_).trans (congrArg some xq)
  ·have hi' : i < b.Puts.length := hl ▸ hi
   simp only [jX, gZ hi, cond_true, br hi, br hi', Option.bind_some, uZ (a6 _ (List.getElem_mem hi)) (b6 _ (List.getElem_mem hi')), bB, Option.map_some]
   exact Bc
  ·simp [jX, bB]
 have e4 : fa a.Data b.Data = some (tr (a.Data = b.Data)) := by rw [DQ _ _ (by omega)]; exact congrArg some (tZ (by simp))
 simp only [oe, e1, e2, e3, e4, Option.bind_some]
 rw [pp (p := a.ID.Session = b.ID.Session ∧ a.ID.Seq = b.ID.Seq) (q := a.Epoch = b.Epoch ∧ a.Gets.map cf = b.Gets.map cf ∧ a.Scans.map oT = b.Scans.map oT ∧ a.Puts.map cf = b.Puts.map cf ∧ a.Data = b.Data) (tZ (by simp)) fun _ => pp (EX _ _) fun _ => pp rfl fun _ => pp rfl fun _ => pp rfl fun _ => rfl]
 refine congrArg _ (lP ?_)
 simp only [mR, ap.mk.injEq, bO.mk.injEq]
 constructor
 ·rintro ⟨h1, h2, h3, h4, h5, h6⟩
  exact ⟨(id_eq _ _).1 h1, h2, h3, h4, h5, h6⟩
 ·rintro ⟨h1, h2, h3, h4, h5, h6⟩
  exact ⟨(id_eq _ _).2 h1, h2, h3, h4, h5, h6⟩
theorem DE {α : Type} (a : α) : tr (a = a) = true := yg rfl
end Go.Proofs.YtgnkkopjkgdieaaGreat

end
section
set_option linter.unusedVariables false
set_option linter.unusedSimpArgs false
set_option maxRecDepth 100000
namespace Go.Proofs.YtgnkkopjkgdieaaGreat
open Go Go.V
def idk (i : bO) : Int := i.Session * 18446744073709551616 + i.Seq
def kid (h : ap) : Int := idk h.ID
theorem Ay {i : bO} (h : idG i) : 0 ≤ i.Session ∧ i.Session < 18446744073709551616 ∧ 0 ≤ i.Seq ∧ i.Seq < 18446744073709551616 := by
 obtain ⟨⟨a, b⟩, c, d⟩ := h
 rw [pw8] at b d
 exact ⟨a, by omega, c, by omega⟩
theorem ia.id {h : ap} (g : ia h) : idG h.ID := ⟨g.1, g.2.1⟩
theorem zI {a b : bO} (ha : idG a) (hb : idG b) : idk a = idk b ↔ a = b := by
 have h1 := Ay ha
 have h2 := Ay hb
 unfold idk
 constructor
 ·intro h
  cases a; cases b
  simp only [bO.mk.injEq] at h1 h2 h ⊢
  omega
 ·rintro rfl; rfl
theorem EW {a b : bO} (ha : idG a) (hb : idG b) : idk a < idk b ↔ a.Session < b.Session ∨ (a.Session = b.Session ∧ a.Seq < b.Seq) := by
 have h1 := Ay ha
 have h2 := Ay hb
 unfold idk
 omega
theorem sB {a b : bO} (ha : idG a) (hb : idG b) : ((a.Session == b.Session) && (a.Seq == b.Seq)) = (idk a == idk b) := by
 rw [Bool.eq_iff_iff]
 simp only [Bool.and_eq_true, beq_iff_eq, zI ha hb]
 cases a; cases b; simp
def sg (a b : Int) : Int := if a < b then -1 else if a > b then 1 else 0
theorem xZ (a b : Int) : dB a b = some (sg a b) := by
 have h1 : (a != a) = false := by simp
 have h2 : (b != b) = false := by simp
 simp only [dB, iX, Option.bind_some, h1, h2, cond_false, sg]
 by_cases h : a < b
 ·simp [h]
 ·by_cases h' : a > b
  ·simp [h, h']
  ·simp [h, h']
theorem CR (a b : Int) : nY [a, b] = some (if a = 0 then b else a) := by
 have h := xm (body := lh [a, b]) [a, b] (fun x => x != 0) (fun x => x) 0 (fun i hi => by
  simp only [lh, gZ hi, cond_true, br hi, Option.bind_some, bN (show i ≤ 4294967295 by simp at hi; omega)]
  cases [a, b][i] != 0 <;> rfl) (by simp [lh, bB])
 rw [nY, h]
 by_cases h1 : a = 0
 ·subst h1
  by_cases h2 : b = 0
  ·subst h2; rfl
  ·simp [h2]
 ·simp [h1]
def wF (a b : bO) : Int := if sg a.Session b.Session = 0 then sg a.Seq b.Seq else sg a.Session b.Session
theorem vi (x : ap) (i : bO) : lC x i = some (wF x.ID i) := by
 simp only [lC, xZ, CR, Option.bind_some, wF]
theorem BM {a b : Int} : sg a b < 0 ↔ a < b := by unfold sg; split <;> (try split) <;> omega
theorem Bf {a b : Int} : sg a b = 0 ↔ a = b := by unfold sg; split <;> (try split) <;> omega
theorem Ad {a b : bO} (ha : idG a) (hb : idG b) : wF a b < 0 ↔ idk a < idk b := by
 rw [EW ha hb]
 unfold wF
 split
 ·rename_i h; rw [Bf] at h; rw [BM]; omega
 ·rename_i h; rw [Bf] at h; rw [BM]; omega
theorem CQ {a b : bO} (ha : idG a) (hb : idG b) : wF a b = 0 ↔ idk a = idk b := by
 rw [zI ha hb]
 unfold wF
 split
 ·rename_i h; rw [Bf] at h; rw [Bf]
  cases a; cases b
  simp only [bO.mk.injEq] at h ⊢
  omega
 ·rename_i h
  have h' := h
  rw [Bf] at h'
  constructor
  ·intro e; exact absurd e h
  ·rintro rfl; exact absurd rfl h'
def qX (l : List ap) : Prop := fN kid l ∧ l.length ≤ 1000 ∧ ∀ x ∈ l, ia x
theorem find_eq {l : List ap} (h : qX l) {i : bO} (hi : idG i) : fK (some { l := l }) i = some (((pl kid (idk i) l : Nat) : Int), hit kid (idk i) l) := by
 obtain ⟨hr, hn, hg⟩ := h
 have hs : bA (gn { l := l } i) (((l.length : Nat) : Int), (0:Int)) = some ((lb (lo kid (idk i)) l : Nat) : Int) := by
  refine pY (R := Int) l (lo kid (idk i)) (by omega) (hr.ahd (idk i)) (fun a j k hk hij hke hj => ?_) (fun a j hij => ?_)
  ·have e1 : decide ((a : Int) < (j : Int)) = true := by simpa using hij
   have e2 := tI (i := a) (j := j) (by omega)
   rw [← hke] at e2
   simp only [gn, e1, cond_true, e2, br hk, Option.bind_some, vi]
   have e4 : decide (wF l[k].ID i < 0) = lo kid (idk i) l[k] := by
    unfold lo
    rw [decide_eq_decide]
    exact Ad (hg _ (List.getElem_mem hk)).id hi
   rw [e4, bN (show k ≤ 4294967295 by omega)]
   cases lo kid (idk i) l[k] <;> rfl
  ·have e1 : decide ((a : Int) < (j : Int)) = false := by simpa using hij
   simp only [gn, e1, cond_false, bB, Option.map_some]
 simp only [fK, hs, Option.bind_some, ke]
 rw [show lb (lo kid (idk i)) l = pl kid (idk i) l from rfl]
 unfold hit
 by_cases hk : pl kid (idk i) l < l.length
 ·rw [gZ hk, cond_true, br hk, Option.bind_some]
  simp only [vi, Option.bind_some, List.getElem?_eq_getElem hk]
  congr 2
  rw [Bool.eq_iff_iff]
  simp only [beq_iff_eq]
  exact CQ (hg _ (List.getElem_mem hk)).id hi
 ·have e1 : decide (((pl kid (idk i) l : Nat) : Int) < (l.length : Int)) = false := by simpa using hk
  rw [e1, cond_false, List.getElem?_eq_none (by omega)]
  rfl
theorem Dm {l : List ap} (h : qX l) {x : ap} (hx : ia x) (hn : l.length ≤ 999) : qX (kz kid l x) := by
 refine ⟨pt h.1 x, by have := se h.1 x; omega, fun y hy => ?_⟩
 rcases (kR h.1 x y).1 hy with rfl | ⟨h1, _⟩
 ·exact hx
 ·exact h.2.2 y h1
theorem Dq {l : List ap} (h : qX l) (s : Int) : qX (oG kid s l) := by
 refine ⟨wS h.1 s, by have := vW h.1 s; have := h.2.1; omega, fun y hy => ?_⟩
 rw [← kA h.1] at hy
 exact h.2.2 y (List.mem_filter.1 hy).1
def bars (h x : ap) : Bool := !(kid x == kid h) && mtB x h
theorem Ao (l : List Nat) (h : l.length ≤ 1000) : eB l = some l := dh (jF (by simp; omega))
theorem DY (l : List (Nat × Nat)) (h : l.length ≤ 1000) : eL l = some l := dh (jF (by simp; omega))
theorem DP (l : List Int) (h : l.length ≤ 1000) : dP l = some l := dh (jF (by simp; omega))
theorem DB {l : List ap} (h : qX l) (hn : l.length ≤ 999) {x : ap} (hx : ia x) : gT (some { l := l }) x = some (if l.any (bars x) then (8, some { l := l }) else (0, some { l := kz kid l x })) := by
 have h1 := nJ (body := gy { l := l } x) l (bars x) (Sum.inr ((8:Int), some { l := l })) (Sum.inl ()) (fun i hi => by
  have hg := h.2.2 _ (List.getElem_mem hi)
  simp only [gy, gZ hi, cond_true, br hi, Option.bind_some, sB hg.id hx.id, Dw hg hx, bN (show i ≤ 4294967295 by omega), bars]
  show (bif !(kid l[i] == kid x) then _ else _) = _
  cases kid l[i] == kid x <;> cases mtB l[i] x <;> rfl) (by simp [gy, bB])
 simp only [gT, h1]
 cases hb : l.any (bars x) with
 | true => rfl
 | false =>
  show iH x { l := l } () = _
  have hx' := hx
  obtain ⟨_, _, _, _, _, _, l1, l2, l3, l4, _⟩ := hx
  simp only [iH, Ao x.Gets (by omega), DY x.Scans (by omega), Ao x.Puts (by omega), DP x.Data (by omega), Option.bind_some, find_eq h hx'.id]
  rw [show ({ ID := x.ID, Epoch := x.Epoch, Gets := x.Gets, Scans := x.Scans, Puts := x.Puts, Data := x.Data } : ap) = x from rfl, show idk x.ID = kid x from rfl]
  cases hh : hit kid (kid x) l with
  | true =>
   obtain ⟨hk, h3, h4⟩ := jL hh
   simp only [cond_true, br hk, Option.bind_some, Int.toNat_natCast, uW hh]; rfl
  | false =>
   simp only [cond_false, eP, dh (rH (x := x) (kid x) (show l.length ≤ 1073741823 by omega)), Option.bind_some, rS hh]; rfl
theorem get_eq {l : List ap} (h : qX l) {i : bO} (hi : idG i) : gC (some { l := l }) i = some (match hY kid (idk i) l with | some x => (x, true) | none => (ef, false)) := by
 simp only [gC, find_eq h hi, Option.bind_some]
 cases hh : hit kid (idk i) l with
 | false => simp [hY, hh]
 | true =>
  obtain ⟨hk, h3, h4⟩ := jL hh
  simp only [h4, Bool.not_true, cond_false, br hk, Option.bind_some]
theorem drop_eq {l : List ap} (h : qX l) {i : bO} (hi : idG i) : iU (some { l := l }) i = some (hit kid (idk i) l, some { l := oG kid (idk i) l }) := by
 simp only [iU, find_eq h hi, Option.bind_some]
 cases hh : hit kid (idk i) l with
 | false =>
  have e : oG kid (idk i) l = l := by unfold oG pr; rw [hh, cond_false, List.take_append_drop]
  rw [e]; rfl
 | true =>
  obtain ⟨hk, h3, h4⟩ := jL hh
  have hf : fits l ((pl kid (idk i) l : Nat) : Int) ((pl kid (idk i) l + 1 : Nat) : Int) = true := by simp [fits]; omega
  have hn := h.2.1
  rw [cond_true, bN (show pl kid (idk i) l ≤ 4294967295 by omega), eO, dh hf, Option.bind_some, Aj hh]
theorem EV (l : List ap) : kV (some { l := l }) = some (l.length : Int) := rfl
theorem BG {l : List ap} (hn : l.length ≤ 1000) (e : Int) : eM (some { l := l }) e = some (l.any fun x => decide (x.Epoch ≤ e)) := by
 obtain ⟨z, h1, h2⟩ := tW (body := eW { l := l } e) l (fun x => decide (x.Epoch ≤ e)) (fun i hi => by
  simp only [eW, gZ hi, cond_true, br hi, Option.bind_some, bN (show i ≤ 4294967295 by omega)]
  cases decide (l[i].Epoch ≤ e) <;> rfl) (by simp [eW, bB])
 simp only [eM, h1, Option.bind_some, h2]
theorem yC {m : List ap} (hn : m.length ≤ 1000) (hg : ∀ x ∈ m, ia x) {i : bO} (hi : idG i) : oa m i = some (m.filter fun x => kid x != idk i) := by
 have h := lz (body := ll m i) m (fun x => kid x != idk i) (fun x => x) (fun out => out) (fun a ha out ho => by
  have g := hg _ (List.getElem_mem ha)
  simp only [ll, gZ ha, cond_true, br ha, Option.bind_some, sB g.id hi, dh (fe (x := m[a]) (show out.length ≤ 1073741823 by omega)), bN (show a ≤ 4294967295 by omega)]
  show (bif !(kid m[a] == idk i) then _ else _) = _
  simp only [bne]
  cases kid m[a] == idk i <;> rfl) (fun out _ => by simp [ll, bB])
 rw [oa, h, List.map_id']
theorem CK {m : List ap} (hn : m.length ≤ 999) (hg : ∀ x ∈ m, ia x) {x : ap} (hx : ia x) : oq m x = some (if m.any (bars x) then (m, false) else ((m.filter fun y => kid y != kid x) ++ [x], true)) := by
 have h1 := nJ (body := lB m x) m (bars x) (Sum.inr (m, false)) (Sum.inl ()) (fun i hi => by
  have g := hg _ (List.getElem_mem hi)
  simp only [lB, gZ hi, cond_true, br hi, Option.bind_some, sB g.id hx.id, Ch g hx, bN (show i ≤ 4294967295 by omega), bars]
  show (bif !(kid m[i] == kid x) then _ else _) = _
  cases kid m[i] == kid x <;> cases mtB m[i] x <;> rfl) (by simp [lB, bB])
 simp only [oq, h1]
 cases hb : m.any (bars x) with
 | true => rfl
 | false =>
  show mS m x () = _
  have hl := List.length_filter_le (fun y : ap => kid y != idk x.ID) m
  simp only [mS, yC (by omega) hg hx.id, Option.bind_some, dh (fe (x := x) (show (m.filter fun y => kid y != idk x.ID).length ≤ 1073741823 by omega)), ox]
  rfl
theorem xN {m : List ap} (hn : m.length ≤ 1000) (hg : ∀ x ∈ m, ia x) {i : bO} (hi : idG i) : kO m i = some (match m.find? (fun x => kid x == idk i) with | some x => (x, true) | none => (ef, false)) := by
 have h := xm (body := lA m i) m (fun x => kid x == idk i) (fun x => (x, true)) (ef, false) (fun a ha => by
  have g := hg _ (List.getElem_mem ha)
  simp only [lA, gZ ha, cond_true, br ha, Option.bind_some, sB g.id hi, bN (show a ≤ 4294967295 by omega)]
  show (bif kid m[a] == idk i then _ else _) = _
  cases kid m[a] == idk i <;> rfl) (by simp [lA, bB])
 unfold kO
 rw [h]
 cases m.find? (fun x => kid x == idk i) <;> rfl
theorem ur {l m : List ap} (hr : fN kid l) (hp : l.Perm m) (s : Int) : m.find? (fun x => kid x == s) = hY kid s l := by
 cases h : m.find? (fun x => kid x == s) with
 | some x =>
  have h1 := List.find?_some h
  have h2 := List.mem_of_find?_eq_some h
  exact ((kt hr).2 ⟨hp.mem_iff.2 h2, eq_of_beq h1⟩).symm
 | none =>
  refine ((ux hr).2 fun x hx e => ?_).symm
  have := List.find?_eq_none.1 h x (hp.mem_iff.1 hx)
  simp [e] at this
theorem vv {α : Type} {l m : List α} (hp : l.Perm m) (q : α → Bool) : l.any q = m.any q := by
 rw [Bool.eq_iff_iff, List.any_eq_true, List.any_eq_true]
 exact ⟨fun ⟨x, h1, h2⟩ => ⟨x, hp.mem_iff.1 h1, h2⟩, fun ⟨x, h1, h2⟩ => ⟨x, hp.mem_iff.2 h1, h2⟩⟩
theorem DR : qX [] := ⟨pJ, Nat.zero_le _, fun x hx => by cases hx⟩
theorem Ea {l m : List ap} (h : qX l) (hp : l.Perm m) (x : ap) : (kz kid l x).Perm ((m.filter fun y => kid y != kid x) ++ [x]) := by
 refine (oo h.1 x).trans ?_
 exact ((hp.filter _).cons x).trans (List.perm_append_comm (l₁ := [x]))
end Go.Proofs.YtgnkkopjkgdieaaGreat

end
