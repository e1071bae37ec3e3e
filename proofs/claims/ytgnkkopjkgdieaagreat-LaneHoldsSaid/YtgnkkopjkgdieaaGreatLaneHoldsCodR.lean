/- What reads bytes: a small algebra of readers. -/
import Derived.Test.YtgnkkopjkgdieaaGreatLaneHoldsOctC
import Derived.Test.YtgnkkopjkgdieaaGreatLaneHoldsFltB
import Derived.Test.YtgnkkopjkgdieaaGreatLaneHoldsCodWH
set_option linter.unusedVariables false
set_option linter.unusedSimpArgs false
set_option maxRecDepth 100000
namespace Go.Proofs.YtgnkkopjkgdieaaGreat
open Go Go.V
def U8s (l : List Int) : Prop := ∀ y ∈ l, isU8 y
theorem U8s.app {a b : List Int} (h : U8s a) (k : U8s b) : U8s (a ++ b) := fun y hy => (List.mem_append.1 hy).elim (h y) (k y)
theorem U8s.nil : U8s [] := fun y hy => by cases hy
/-- f reads x of these bytes. -/
def RD {α : Type} (f : octet_Reader → Option (α × octet_Reader)) (b : List Int) (x : α) : Prop := U8s b ∧ ∀ q, U8s q → b.length + q.length ≤ 1000000000 → f { p := b ++ q, bad := false } = some (x, { p := q, bad := false })
/-- Of any bytes f reads something. -/
def TT {α : Type} (f : octet_Reader → Option (α × octet_Reader)) (P : α → Prop) : Prop := ∀ r, rdOK r → ∃ x r', f r = some (x, r') ∧ P x ∧ rdOK r'
theorem RD.ret {α : Type} (x : α) : RD (fun r => some (x, r)) [] x := ⟨U8s.nil, fun q hq _ => rfl⟩
theorem RD.bind {α β : Type} {f : octet_Reader → Option (α × octet_Reader)} {g : α × octet_Reader → Option (β × octet_Reader)} {b c : List Int} {x : α} {y : β} (hf : RD f b x) (hg : RD (fun r => g (x, r)) c y) : RD (fun r => (f r).bind g) (b ++ c) y :=
  ⟨hf.1.app hg.1, fun q hq hl => by
    simp only [List.length_append] at hl
    show (f { p := b ++ c ++ q, bad := false }).bind g = _
    rw [List.append_assoc, hf.2 (c ++ q) (hg.1.app hq) (by simp only [List.length_append]; omega), Option.bind_some]
    exact hg.2 q hq (by omega)⟩
theorem RD.map {α β : Type} {f : octet_Reader → Option (α × octet_Reader)} {g : α × octet_Reader → Option (β × octet_Reader)} {b : List Int} {x : α} {y : β} (hf : RD f b x) (hg : ∀ r, g (x, r) = some (y, r)) : RD (fun r => (f r).bind g) b y :=
  ⟨hf.1, fun q hq hl => by show (f { p := b ++ q, bad := false }).bind g = _; rw [hf.2 q hq hl, Option.bind_some, hg]⟩
theorem RD.of {α : Type} {f g : octet_Reader → Option (α × octet_Reader)} {b : List Int} {x : α} (h : ∀ r, f r = g r) (hg : RD g b x) : RD f b x := ⟨hg.1, fun q hq hl => by rw [h]; exact hg.2 q hq hl⟩
theorem RD.congr {α : Type} {f : octet_Reader → Option (α × octet_Reader)} {b c : List Int} {x y : α} (h : RD f b x) (e : b = c) (e2 : x = y) : RD f c y := e ▸ e2 ▸ h
theorem TT.ret {α : Type} {P : α → Prop} {x : α} (h : P x) : TT (fun r => some (x, r)) P := fun r hr => ⟨x, r, rfl, h, hr⟩
theorem TT.bind {α β : Type} {f : octet_Reader → Option (α × octet_Reader)} {g : α × octet_Reader → Option (β × octet_Reader)} {P : α → Prop} {Q : β → Prop} (hf : TT f P) (hg : ∀ x, P x → TT (fun r => g (x, r)) Q) : TT (fun r => (f r).bind g) Q := fun r hr => by
  obtain ⟨x, r', h1, h2, h3⟩ := hf r hr
  obtain ⟨y, r2, k1, k2, k3⟩ := hg x h2 r' h3
  exact ⟨y, r2, by show (f r).bind g = _; rw [h1, Option.bind_some]; exact k1, k2, k3⟩
theorem TT.of {α : Type} {f g : octet_Reader → Option (α × octet_Reader)} {P : α → Prop} (h : ∀ r, f r = g r) (hg : TT g P) : TT f P := fun r hr => by rw [h]; exact hg r hr
/-! ### Numbers -/
theorem pw8 : (256:Nat) ^ 8 = 18446744073709551616 := by decide
def isU (m : Nat) (v : Int) : Prop := 0 ≤ v ∧ v < ((256 ^ m : Nat) : Int)
/-! ### Numbers that float -/
/-- A number that floats, as it comes back. -/
def cf (x : Nat) : Nat := if 9223372036854775808 ≤ (fRank x).toNat then (fRank x).toNat - 9223372036854775808 else 18446744073709551615 - (fRank x).toNat
theorem back_cf {x : Nat} (h : isF x) : number_Back (fRank x) = some (cf x) := by
  obtain ⟨h0, h1⟩ := fRank_nat h
  have := back_eq (v := (fRank x).toNat) (by omega)
  rw [Int.toNat_of_nonneg h0] at this
  rw [this]; rfl
theorem cf_good {x : Nat} (h : isF x) (hn : fNaN x = false) : cf x = x := by
  have h1 := back_rank h hn
  rw [back_cf h] at h1
  exact Option.some.inj h1
theorem fRank_cf {x : Nat} (h : isF x) : fRank (cf x) = fRank x := by
  cases hn : fNaN x with
  | false => rw [cf_good h hn]
  | true =>
    have e : fRank x = 18446744073709551615 := by simp [fRank, hn]
    have e2 : cf x = 9223372036854775807 := by unfold cf; rw [e]; decide
    rw [e2, e]; decide
theorem cf_eq {x y : Nat} (hx : isF x) (hy : isF y) : cf x = cf y ↔ fRank x = fRank y := by
  constructor
  · intro h
    rw [← fRank_cf hx, ← fRank_cf hy, h]
  · intro h
    unfold cf
    rw [h]
/-! ### Loops -/
section
variable {α β S R : Type} {body : S → Option (S ⊕ R)} (st : octet_Reader → List α → Int → S) (out : octet_Reader → List α → R) {F : octet_Reader → Option (α × octet_Reader)}
end
end Go.Proofs.YtgnkkopjkgdieaaGreat
