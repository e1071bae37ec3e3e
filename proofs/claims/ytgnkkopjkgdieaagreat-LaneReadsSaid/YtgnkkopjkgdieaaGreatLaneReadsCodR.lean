/- What reads bytes: a small algebra of readers. -/
import Derived.Test.YtgnkkopjkgdieaaGreatLaneReadsOctC
import Derived.Test.YtgnkkopjkgdieaaGreatLaneReadsFltB
import Derived.Test.YtgnkkopjkgdieaaGreatLaneReadsCodWH
set_option linter.unusedVariables false
set_option linter.unusedSimpArgs false
set_option maxRecDepth 100000
namespace Go.Proofs.YtgnkkopjkgdieaaGreat
open Go Go.V
def U8s (l : List Int) : Prop := ∀ y ∈ l, isU8 y
theorem U8s.app {a b : List Int} (h : U8s a) (k : U8s b) : U8s (a ++ b) := fun y hy => (List.mem_append.1 hy).elim (h y) (k y)
theorem U8s.nil : U8s [] := fun y hy => by cases hy
theorem U8s.flat {β : Type} {e : β → List Int} {l : List β} (h : ∀ x ∈ l, U8s (e x)) : U8s (l.map e).flatten := by
  intro y hy
  simp only [List.mem_flatten, List.mem_map] at hy
  obtain ⟨_, ⟨x, hx, rfl⟩, hy⟩ := hy
  exact h x hx y hy
/-- f reads x of these bytes. -/
def RD {α : Type} (f : octet_Reader → Option (α × octet_Reader)) (b : List Int) (x : α) : Prop := U8s b ∧ ∀ q, U8s q → b.length + q.length ≤ 1000000000 → f { p := b ++ q, bad := false } = some (x, { p := q, bad := false })
/-- Of any bytes f reads something. -/
def TT {α : Type} (f : octet_Reader → Option (α × octet_Reader)) (P : α → Prop) : Prop := ∀ r, rdOK r → ∃ x r', f r = some (x, r') ∧ P x ∧ rdOK r'
theorem RD.ret {α : Type} (x : α) : RD (fun r => some (x, r)) [] x := ⟨U8s.nil, fun q hq _ => rfl⟩
theorem RD.bind {α β : Type} {f : octet_Reader → Option (α × octet_Reader)} {g : α × octet_Reader → Option (β × octet_Reader)} {b c : List Int} {x : α} {y : β} (hf : RD f b x) (hg : RD (fun r => g (x, r)) c y) : RD (fun r => (f r).bind g) (b ++ c) y :=
  ⟨hf.1.app hg.1, fun q hq hl => by
    simp only [List.length_append] at hl
    show (f { p := b ++ c ++ q, bad := false }).bind g = _
    rw [List.append_assoc, hf.2 (c ++ q) (hg.1.app hq) (by simp only [List.length_append]; omega), Option.bind_some]
    exact hg.2 q hq (by omega)⟩
theorem RD.map {α β : Type} {f : octet_Reader → Option (α × octet_Reader)} {g : α × octet_Reader → Option (β × octet_Reader)} {b : List Int} {x : α} {y : β} (hf : RD f b x) (hg : ∀ r, g (x, r) = some (y, r)) : RD (fun r => (f r).bind g) b y :=
  ⟨hf.1, fun q hq hl => by show (f { p := b ++ q, bad := false }).bind g = _; rw [hf.2 q hq hl, Option.bind_some, hg]⟩
theorem RD.of {α : Type} {f g : octet_Reader → Option (α × octet_Reader)} {b : List Int} {x : α} (h : ∀ r, f r = g r) (hg : RD g b x) : RD f b x := ⟨hg.1, fun q hq hl => by rw [h]; exact hg.2 q hq hl⟩
theorem RD.congr {α : Type} {f : octet_Reader → Option (α × octet_Reader)} {b c : List Int} {x y : α} (h : RD f b x) (e : b = c) (e2 : x = y) : RD f c y := e ▸ e2 ▸ h
theorem TT.ret {α : Type} {P : α → Prop} {x : α} (h : P x) : TT (fun r => some (x, r)) P := fun r hr => ⟨x, r, rfl, h, hr⟩
theorem TT.bind {α β : Type} {f : octet_Reader → Option (α × octet_Reader)} {g : α × octet_Reader → Option (β × octet_Reader)} {P : α → Prop} {Q : β → Prop} (hf : TT f P) (hg : ∀ x, P x → TT (fun r => g (x, r)) Q) : TT (fun r => (f r).bind g) Q := fun r hr => by
  obtain ⟨x, r', h1, h2, h3⟩ := hf r hr
  obtain ⟨y, r2, k1, k2, k3⟩ := hg x h2 r' h3
  exact ⟨y, r2, by show (f r).bind g = _; rw [h1, Option.bind_some]; exact k1, k2, k3⟩
theorem TT.of {α : Type} {f g : octet_Reader → Option (α × octet_Reader)} {P : α → Prop} (h : ∀ r, f r = g r) (hg : TT g P) : TT f P := fun r hr => by rw [h]; exact hg r hr
/-! ### Numbers -/
theorem pw8 : (256:Nat) ^ 8 = 18446744073709551616 := by decide
def isU (m : Nat) (v : Int) : Prop := 0 ≤ v ∧ v < ((256 ^ m : Nat) : Int)
/-! ### Numbers that float -/
/-- A number that floats, as it comes back. -/
def cf (x : Nat) : Nat := if 9223372036854775808 ≤ (fRank x).toNat then (fRank x).toNat - 9223372036854775808 else 18446744073709551615 - (fRank x).toNat
theorem back_cf {x : Nat} (h : isF x) : number_Back (fRank x) = some (cf x) := by
  obtain ⟨h0, h1⟩ := fRank_nat h
  have := back_eq (v := (fRank x).toNat) (by omega)
  rw [Int.toNat_of_nonneg h0] at this
  rw [this]; rfl
theorem cf_good {x : Nat} (h : isF x) (hn : fNaN x = false) : cf x = x := by
  have h1 := back_rank h hn
  rw [back_cf h] at h1
  exact Option.some.inj h1
theorem fRank_cf {x : Nat} (h : isF x) : fRank (cf x) = fRank x := by
  cases hn : fNaN x with
  | false => rw [cf_good h hn]
  | true =>
    have e : fRank x = 18446744073709551615 := by simp [fRank, hn]
    have e2 : cf x = 9223372036854775807 := by unfold cf; rw [e]; decide
    rw [e2, e]; decide
theorem cf_eq {x y : Nat} (hx : isF x) (hy : isF y) : cf x = cf y ↔ fRank x = fRank y := by
  constructor
  · intro h
    rw [← fRank_cf hx, ← fRank_cf hy, h]
  · intro h
    unfold cf
    rw [h]
/-! ### Loops -/
section
variable {α β S R : Type} {body : S → Option (S ⊕ R)} (st : octet_Reader → List α → Int → S) (out : octet_Reader → List α → R) {F : octet_Reader → Option (α × octet_Reader)}
theorem RD.loop (l : List β) (e : β → List Int) (c : β → α) (hl : l.length ≤ 1000000000) (hF : ∀ x ∈ l, RD F (e x) (c x))
    (hb : ∀ r acc i, i < (l.length : Int) → body (st r acc i) = (F r).bind fun t => gd (room acc [t.1]) (some (Sum.inl (st t.2 (acc ++ [t.1]) (IntKind.i64.wrap (i + (1:Int)))))))
    (hend : ∀ r acc, body (st r acc (l.length : Int)) = some (Sum.inr (out r acc))) (q : List Int) (hq : U8s q) (hlen : (l.map e).flatten.length + q.length ≤ 1000000000) :
    loopO body (st { p := (l.map e).flatten ++ q, bad := false } [] (0:Int)) = some (out { p := q, bad := false } (l.map c)) := by
  have h := loop_range (body := body) (fun i => st { p := ((l.drop i).map e).flatten ++ q, bad := false } ((l.take i).map c) (i : Int)) l.length (out { p := q, bad := false } (l.map c)) ?_ ?_
  · simpa using h
  · intro i hi
    have e1 : IntKind.i64.wrap ((i : Int) + (1:Int)) = ((i + 1 : Nat) : Int) := by rw [wrap_i64] <;> omega
    have hx := hF _ (List.getElem_mem hi)
    have hu : U8s (((l.drop (i + 1)).map e).flatten ++ q) := (U8s.flat fun x hx => (hF x (List.mem_of_mem_drop hx)).1).app hq
    have hd : l.drop i = l[i] :: l.drop (i + 1) := List.drop_eq_getElem_cons hi
    have hlen2 : ((l.drop i).map e).flatten.length ≤ (l.map e).flatten.length := by
      have h3 : (l.map e).flatten = ((l.take i).map e).flatten ++ ((l.drop i).map e).flatten := by rw [← List.flatten_append, ← List.map_append, List.take_append_drop]
      rw [h3, List.length_append]; omega
    rw [hd, List.map_cons, List.flatten_cons, List.length_append] at hlen2
    have hr := hx.2 _ hu (by simp only [List.length_append]; omega)
    rw [hb _ _ _ (by omega), hd, List.map_cons, List.flatten_cons, List.append_assoc, hr, Option.bind_some, gd_true (room_le (by simp only [List.length_map, List.length_take, List.length_cons, List.length_nil]; omega)), e1, List.take_succ_eq_append_getElem hi, List.map_append]
    rfl
  · rw [hend, List.take_length, List.drop_length]; rfl
theorem TT.loop {P : α → Prop} (hF : TT F P) (n : Int) (hn : n ≤ 1000000000)
    (hb : ∀ r acc i, i < n → body (st r acc i) = (F r).bind fun t => gd (room acc [t.1]) (some (Sum.inl (st t.2 (acc ++ [t.1]) (IntKind.i64.wrap (i + (1:Int)))))))
    (hend : ∀ r acc i, ¬ i < n → body (st r acc i) = some (Sum.inr (out r acc))) (r : octet_Reader) (hr : rdOK r) (h0 : 0 ≤ n) :
    ∃ r' acc, loopO body (st r [] (0:Int)) = some (out r' acc) ∧ rdOK r' ∧ (∀ x ∈ acc, P x) ∧ (acc.length : Int) ≤ n := by
  have key : ∀ (k : Nat) (r : octet_Reader) (acc : List α) (i : Int), rdOK r → (acc.length : Int) = i → i ≤ n → (∀ x ∈ acc, P x) → (n - i).toNat ≤ k → ∃ r' acc', loopO body (st r acc i) = some (out r' acc') ∧ rdOK r' ∧ (∀ x ∈ acc', P x) ∧ (acc'.length : Int) ≤ n := by
    intro k
    induction k with
    | zero =>
      intro r acc i hr ha hi hP hk
      have hni : ¬ i < n := by omega
      exact ⟨r, acc, by rw [loopO_eq, hend r acc i hni]; rfl, hr, hP, by omega⟩
    | succ k ih =>
      intro r acc i hr ha hi hP hk
      by_cases hlt : i < n
      · obtain ⟨x, r', h1, h2, h3⟩ := hF r hr
        have e1 : IntKind.i64.wrap (i + (1:Int)) = i + 1 := by rw [wrap_i64] <;> omega
        obtain ⟨r2, acc2, g1, g2, g3, g4⟩ := ih r' (acc ++ [x]) (i + 1) h3 (by simp only [List.length_append, List.length_cons, List.length_nil]; omega) (by omega) (fun y hy => by
          rcases List.mem_append.1 hy with hy | hy
          · exact hP y hy
          · cases List.mem_singleton.1 hy; exact h2) (by omega)
        refine ⟨r2, acc2, ?_, g2, g3, g4⟩
        rw [loopO_eq, hb r acc i hlt, h1, Option.bind_some, gd_true (room_le (by simp only [List.length_cons, List.length_nil]; omega)), e1]
        exact g1
      · exact ⟨r, acc, by rw [loopO_eq, hend r acc i hlt]; rfl, hr, hP, by omega⟩
  exact key (n - 0).toNat r [] 0 hr rfl h0 (fun x hx => by cases hx) (Nat.le_refl _)
end
end Go.Proofs.YtgnkkopjkgdieaaGreat
