/- A hold is read. -/
import Derived.Test.YtkfifhkjdibadaaSessionBytesCodR
set_option linter.unusedVariables false
set_option linter.unusedSimpArgs false
set_option maxRecDepth 100000
namespace Go.Proofs.Ytkfifhkjdibadaa
open Go Go.V
theorem bnd {α β : Type} {x : Option α} {f g : α → Option β} (h : ∀ a, f a = g a) : x.bind f = x.bind g := by rw [funext h]
/-- A list behind its length. -/
theorem RD.listG {α β S R γ : Type} {a : Int} {F : octet_Reader → Option (α × octet_Reader)} {body : Int × octet_Reader → S → Option (S ⊕ R)} (st : octet_Reader → List α → Int → S) (out : octet_Reader → List α → R) (fin : R → Option (γ × octet_Reader)) {y : γ}
    (l : List β) (e : β → List Int) (c : β → α) (hl : (l.length : Int) ≤ a) (ha : a ≤ 1000000000) (hF : ∀ x ∈ l, RD F (e x) (c x))
    (hb : ∀ t r acc i, i < t.1 → body t (st r acc i) = (F r).bind fun u => gd (room acc [u.1]) (some (Sum.inl (st u.2 (acc ++ [u.1]) (IntKind.i64.wrap (i + (1:Int)))))))
    (hend : ∀ t r acc i, ¬ i < t.1 → body t (st r acc i) = some (Sum.inr (out r acc))) (hfin : ∀ r, fin (out r (l.map c)) = some (y, r)) :
    RD (fun r => (octet_Reader_Count r a).bind fun t => (loopO (body t) (st t.2 [] (0:Int))).bind fin) (leB 4 l.length ++ (l.map e).flatten) y := by
  have key : RD (fun r => (fun t : Int × octet_Reader => (loopO (body t) (st t.2 [] (0:Int))).bind fin) ((l.length : Int), r)) (l.map e).flatten y := ?_
  · exact RD.bind (RD.cnt l.length hl ha) key
  refine ⟨U8s.flat fun x hx => (hF x hx).1, fun q hq hlen => ?_⟩
  have := RD.loop (body := body ((l.length : Int), { p := (l.map e).flatten ++ q, bad := false })) st out l e c (by omega) hF (fun r acc i hi => hb _ r acc i hi) (fun r acc => hend _ r acc _ (by simp)) q hq hlen
  show (loopO (body ((l.length : Int), { p := (l.map e).flatten ++ q, bad := false })) (st { p := (l.map e).flatten ++ q, bad := false } [] (0:Int))).bind _ = _
  rw [this]; exact hfin _
theorem TT.listG {α S R γ : Type} {a : Int} {P : α → Prop} {Q : γ → Prop} {F : octet_Reader → Option (α × octet_Reader)} {body : Int × octet_Reader → S → Option (S ⊕ R)} (st : octet_Reader → List α → Int → S) (out : octet_Reader → List α → R) (fin : R → Option (γ × octet_Reader))
    (h0 : 0 ≤ a) (ha : a ≤ 1000000000) (hF : TT F P)
    (hb : ∀ t r acc i, i < t.1 → body t (st r acc i) = (F r).bind fun u => gd (room acc [u.1]) (some (Sum.inl (st u.2 (acc ++ [u.1]) (IntKind.i64.wrap (i + (1:Int)))))))
    (hend : ∀ t r acc i, ¬ i < t.1 → body t (st r acc i) = some (Sum.inr (out r acc))) (hfin : ∀ r acc, (acc.length : Int) ≤ a → (∀ x ∈ acc, P x) → ∃ y, fin (out r acc) = some (y, r) ∧ Q y) :
    TT (fun r => (octet_Reader_Count r a).bind fun t => (loopO (body t) (st t.2 [] (0:Int))).bind fin) Q := by
  refine TT.bind (TT.cnt h0 ha) fun n hn r hr => ?_
  obtain ⟨r', acc, h1, h2, h3, h4⟩ := TT.loop (body := body (n, r)) st out hF n (by omega) (fun r acc i hi => hb _ r acc i hi) (fun r acc i hi => hend _ r acc i hi) r hr hn.1
  obtain ⟨y, k1, k2⟩ := hfin r' acc (by omega) h3
  exact ⟨y, r', by show (loopO (body (n, r)) (st r [] (0:Int))).bind _ = _; rw [h1]; exact k1, k2, h2⟩
theorem bind_some' {α : Type} (x : Option α) : x.bind some = x := by cases x <;> rfl
theorem RD.listD {α β S γ : Type} {a : Int} {F : octet_Reader → Option (α × octet_Reader)} {body : Int × octet_Reader → S → Option (S ⊕ (γ × octet_Reader))} (st : octet_Reader → List α → Int → S) (out : octet_Reader → List α → γ × octet_Reader) {y : γ}
    (l : List β) (e : β → List Int) (c : β → α) (hl : (l.length : Int) ≤ a) (ha : a ≤ 1000000000) (hF : ∀ x ∈ l, RD F (e x) (c x))
    (hb : ∀ t r acc i, i < t.1 → body t (st r acc i) = (F r).bind fun u => gd (room acc [u.1]) (some (Sum.inl (st u.2 (acc ++ [u.1]) (IntKind.i64.wrap (i + (1:Int)))))))
    (hend : ∀ t r acc i, ¬ i < t.1 → body t (st r acc i) = some (Sum.inr (out r acc))) (hfin : ∀ r, out r (l.map c) = (y, r)) :
    RD (fun r => (octet_Reader_Count r a).bind fun t => loopO (body t) (st t.2 [] (0:Int))) (leB 4 l.length ++ (l.map e).flatten) y :=
  RD.of (fun r => bnd fun t => (bind_some' _).symm) (RD.listG st out some l e c hl ha hF hb hend fun r => by rw [hfin])
theorem TT.listD {α S γ : Type} {a : Int} {P : α → Prop} {Q : γ → Prop} {F : octet_Reader → Option (α × octet_Reader)} {body : Int × octet_Reader → S → Option (S ⊕ (γ × octet_Reader))} (st : octet_Reader → List α → Int → S) (out : octet_Reader → List α → γ × octet_Reader)
    (h0 : 0 ≤ a) (ha : a ≤ 1000000000) (hF : TT F P)
    (hb : ∀ t r acc i, i < t.1 → body t (st r acc i) = (F r).bind fun u => gd (room acc [u.1]) (some (Sum.inl (st u.2 (acc ++ [u.1]) (IntKind.i64.wrap (i + (1:Int)))))))
    (hend : ∀ t r acc i, ¬ i < t.1 → body t (st r acc i) = some (Sum.inr (out r acc))) (hfin : ∀ r acc, (acc.length : Int) ≤ a → (∀ x ∈ acc, P x) → ∃ y, out r acc = (y, r) ∧ Q y) :
    TT (fun r => (octet_Reader_Count r a).bind fun t => loopO (body t) (st t.2 [] (0:Int))) Q :=
  TT.of (fun r => bnd fun t => (bind_some' _).symm) (TT.listG st out some h0 ha hF hb hend fun r acc h1 h2 => by obtain ⟨y, k1, k2⟩ := hfin r acc h1 h2; exact ⟨y, by rw [k1], k2⟩)
end Go.Proofs.Ytkfifhkjdibadaa
