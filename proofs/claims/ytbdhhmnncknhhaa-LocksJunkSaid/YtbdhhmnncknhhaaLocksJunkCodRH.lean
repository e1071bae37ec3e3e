/- A hold is read. -/
import Derived.Test.YtbdhhmnncknhhaaLocksJunkCodR
set_option linter.unusedVariables false
set_option linter.unusedSimpArgs false
set_option maxRecDepth 100000
namespace Go.Proofs.Ytbdhhmnncknhhaa
open Go Go.V
theorem bnd {α β : Type} {x : Option α} {f g : α → Option β} (h : ∀ a, f a = g a) : x.bind f = x.bind g := by rw [funext h]
noncomputable def rdGets (r : octet_Reader) : Option (List Nat × octet_Reader) := (octet_Reader_Count r (32:Int)).bind fun t => (loopO (locks_Read_l1 t) ([], t.2, (0:Int))).bind fun s => some (s.2, s.1)
noncomputable def rdScans (r : octet_Reader) : Option (List (Nat × Nat) × octet_Reader) := (octet_Reader_Count r (32:Int)).bind fun t => (loopO (locks_Read_l3 t) ([], t.2, (0:Int))).bind fun s => some (s.2, s.1)
noncomputable def rdPuts (r : octet_Reader) : Option (List Nat × octet_Reader) := (octet_Reader_Count r (32:Int)).bind fun t => (loopO (locks_Read_l5 t) ([], t.2, (0:Int))).bind fun s => some (s.2, s.1)
noncomputable def rdSpan (r : octet_Reader) : Option ((Nat × Nat) × octet_Reader) := (rdF r).bind fun a => (rdF a.2).bind fun b => some ((a.1, b.1), b.2)
def cSpan (x : Nat × Nat) : Nat × Nat := (cf x.1, cf x.2)
theorem RD.span {x : Nat × Nat} (h : isF x.1 ∧ isF x.2) : RD rdSpan (scB x) (cSpan x) := by
  refine RD.bind (RD.f h.1) ?_
  dsimp only
  exact RD.map (RD.f h.2) fun r => rfl
theorem TT.span : TT rdSpan (fun x => isF x.1 ∧ isF x.2) := by
  refine TT.bind TT.f fun a ha => ?_
  dsimp only
  refine TT.bind TT.f fun b hb => ?_
  dsimp only
  exact TT.ret (P := fun x : Nat × Nat => isF x.1 ∧ isF x.2) ⟨ha, hb⟩
/-- A list behind its length. -/
theorem RD.listG {α β S R γ : Type} {a : Int} {F : octet_Reader → Option (α × octet_Reader)} {body : Int × octet_Reader → S → Option (S ⊕ R)} (st : octet_Reader → List α → Int → S) (out : octet_Reader → List α → R) (fin : R → Option (γ × octet_Reader)) {y : γ}
    (l : List β) (e : β → List Int) (c : β → α) (hl : (l.length : Int) ≤ a) (ha : a ≤ 1000000000) (hF : ∀ x ∈ l, RD F (e x) (c x))
    (hb : ∀ t r acc i, i < t.1 → body t (st r acc i) = (F r).bind fun u => gd (room acc [u.1]) (some (Sum.inl (st u.2 (acc ++ [u.1]) (IntKind.i64.wrap (i + (1:Int)))))))
    (hend : ∀ t r acc i, ¬ i < t.1 → body t (st r acc i) = some (Sum.inr (out r acc))) (hfin : ∀ r, fin (out r (l.map c)) = some (y, r)) :
    RD (fun r => (octet_Reader_Count r a).bind fun t => (loopO (body t) (st t.2 [] (0:Int))).bind fin) (leB 4 l.length ++ (l.map e).flatten) y := by
  have key : RD (fun r => (fun t : Int × octet_Reader => (loopO (body t) (st t.2 [] (0:Int))).bind fin) ((l.length : Int), r)) (l.map e).flatten y := ?_
  · exact RD.bind (RD.cnt l.length hl ha) key
  refine ⟨U8s.flat fun x hx => (hF x hx).1, fun q hq hlen => ?_⟩
  have := RD.loop (body := body ((l.length : Int), { p := (l.map e).flatten ++ q, bad := false })) st out l e c (by omega) hF (fun r acc i hi => hb _ r acc i hi) (fun r acc => hend _ r acc _ (by simp)) q hq hlen
  show (loopO (body ((l.length : Int), { p := (l.map e).flatten ++ q, bad := false })) (st { p := (l.map e).flatten ++ q, bad := false } [] (0:Int))).bind _ = _
  rw [this]; exact hfin _
theorem TT.listG {α S R γ : Type} {a : Int} {P : α → Prop} {Q : γ → Prop} {F : octet_Reader → Option (α × octet_Reader)} {body : Int × octet_Reader → S → Option (S ⊕ R)} (st : octet_Reader → List α → Int → S) (out : octet_Reader → List α → R) (fin : R → Option (γ × octet_Reader))
    (h0 : 0 ≤ a) (ha : a ≤ 1000000000) (hF : TT F P)
    (hb : ∀ t r acc i, i < t.1 → body t (st r acc i) = (F r).bind fun u => gd (room acc [u.1]) (some (Sum.inl (st u.2 (acc ++ [u.1]) (IntKind.i64.wrap (i + (1:Int)))))))
    (hend : ∀ t r acc i, ¬ i < t.1 → body t (st r acc i) = some (Sum.inr (out r acc))) (hfin : ∀ r acc, (acc.length : Int) ≤ a → (∀ x ∈ acc, P x) → ∃ y, fin (out r acc) = some (y, r) ∧ Q y) :
    TT (fun r => (octet_Reader_Count r a).bind fun t => (loopO (body t) (st t.2 [] (0:Int))).bind fin) Q := by
  refine TT.bind (TT.cnt h0 ha) fun n hn r hr => ?_
  obtain ⟨r', acc, h1, h2, h3, h4⟩ := TT.loop (body := body (n, r)) st out hF n (by omega) (fun r acc i hi => hb _ r acc i hi) (fun r acc i hi => hend _ r acc i hi) r hr hn.1
  obtain ⟨y, k1, k2⟩ := hfin r' acc (by omega) h3
  exact ⟨y, r', by show (loopO (body (n, r)) (st r [] (0:Int))).bind _ = _; rw [h1]; exact k1, k2, h2⟩
theorem bind_some' {α : Type} (x : Option α) : x.bind some = x := by cases x <;> rfl
theorem gets_step (t : Int × octet_Reader) (r : octet_Reader) (acc : List Nat) (i : Int) (hi : i < t.1) : locks_Read_l1 t (acc, r, i) = (rdF r).bind fun u => gd (room acc [u.1]) (some (Sum.inl (acc ++ [u.1], u.2, IntKind.i64.wrap (i + (1:Int))))) := by
  have e : decide (i < t.1) = true := by simpa using hi
  simp only [locks_Read_l1, e, cond_true, rdF, Option.bind_assoc, Option.bind_some]
theorem puts_step (t : Int × octet_Reader) (r : octet_Reader) (acc : List Nat) (i : Int) (hi : i < t.1) : locks_Read_l5 t (acc, r, i) = (rdF r).bind fun u => gd (room acc [u.1]) (some (Sum.inl (acc ++ [u.1], u.2, IntKind.i64.wrap (i + (1:Int))))) := by
  have e : decide (i < t.1) = true := by simpa using hi
  simp only [locks_Read_l5, e, cond_true, rdF, Option.bind_assoc, Option.bind_some]
theorem scans_step (t : Int × octet_Reader) (r : octet_Reader) (acc : List (Nat × Nat)) (i : Int) (hi : i < t.1) : locks_Read_l3 t (acc, r, i) = (rdSpan r).bind fun u => gd (room acc [u.1]) (some (Sum.inl (acc ++ [u.1], u.2, IntKind.i64.wrap (i + (1:Int))))) := by
  have e : decide (i < t.1) = true := by simpa using hi
  simp only [locks_Read_l3, e, cond_true, rdSpan, rdF, Option.bind_assoc, Option.bind_some]
theorem gets_end (t : Int × octet_Reader) (r : octet_Reader) (acc : List Nat) (i : Int) (hi : ¬ i < t.1) : locks_Read_l1 t (acc, r, i) = some (Sum.inr (r, acc)) := by simp [locks_Read_l1, hi, inrO]
theorem puts_end (t : Int × octet_Reader) (r : octet_Reader) (acc : List Nat) (i : Int) (hi : ¬ i < t.1) : locks_Read_l5 t (acc, r, i) = some (Sum.inr (r, acc)) := by simp [locks_Read_l5, hi, inrO]
theorem scans_end (t : Int × octet_Reader) (r : octet_Reader) (acc : List (Nat × Nat)) (i : Int) (hi : ¬ i < t.1) : locks_Read_l3 t (acc, r, i) = some (Sum.inr (r, acc)) := by simp [locks_Read_l3, hi, inrO]
theorem read_eqH (r : octet_Reader) : locks_Read r = (octet_Reader_Num r (8:Int)).bind fun a => (octet_Reader_Num a.2 (8:Int)).bind fun b => (octet_Reader_Num b.2 (8:Int)).bind fun e => (rdGets e.2).bind fun g => (rdScans g.2).bind fun s => (rdPuts s.2).bind fun p => (octet_Reader_Bytes p.2 (257:Int)).bind fun d => some (({ ID := { Session := a.1, Seq := b.1 }, Epoch := e.1, Gets := g.1, Scans := s.1, Puts := p.1, Data := d.1 } : api_Hold), d.2) := by
  unfold locks_Read
  refine bnd fun t1 => bnd fun t2 => bnd fun t3 => ?_
  simp only [rdGets, Option.bind_assoc, Option.bind_some]
  refine bnd fun t4 => bnd ?_
  rintro ⟨r5, g⟩
  simp only [locks_Read_j0, rdScans, Option.bind_assoc, Option.bind_some]
  refine bnd fun t6 => bnd ?_
  rintro ⟨r7, s⟩
  simp only [locks_Read_j2, rdPuts, Option.bind_assoc, Option.bind_some]
  refine bnd fun t8 => bnd ?_
  rintro ⟨r9, p⟩
  rfl
/-- What is written so that it is read. -/
def holdG (h : api_Hold) : Prop := isU 8 h.ID.Session ∧ isU 8 h.ID.Seq ∧ isU 8 h.Epoch ∧ (∀ x ∈ h.Gets, isF x) ∧ (∀ x ∈ h.Scans, isF x.1 ∧ isF x.2) ∧ (∀ x ∈ h.Puts, isF x) ∧ h.Gets.length ≤ 32 ∧ h.Scans.length ≤ 32 ∧ h.Puts.length ≤ 32 ∧ h.Data.length ≤ 257 ∧ U8s h.Data
theorem holdG.ok {h : api_Hold} (g : holdG h) : holdOK h := by
  obtain ⟨h1, h2, h3, h4, h5, h6, l1, l2, l3, l4, h7⟩ := g
  exact ⟨h1.1, h2.1, h3.1, h4, h5, h6, by omega, by omega, by omega, by omega⟩
def cHold (h : api_Hold) : api_Hold := { ID := { Session := h.ID.Session, Seq := h.ID.Seq }, Epoch := h.Epoch, Gets := h.Gets.map cf, Scans := h.Scans.map cSpan, Puts := h.Puts.map cf, Data := h.Data }
theorem RD.hold {h : api_Hold} (g : holdG h) : RD locks_Read (holdB h) (cHold h) := by
  obtain ⟨h1, h2, h3, h4, h5, h6, l1, l2, l3, l4, h7⟩ := g
  refine RD.of read_eqH (RD.congr (b := leB 8 h.ID.Session.toNat ++ (leB 8 h.ID.Seq.toNat ++ (leB 8 h.Epoch.toNat ++ ((leB 4 h.Gets.length ++ (h.Gets.map rkB).flatten) ++ ((leB 4 h.Scans.length ++ (h.Scans.map scB).flatten) ++ ((leB 4 h.Puts.length ++ (h.Puts.map rkB).flatten) ++ byB h.Data)))))) ?_ (by simp only [holdB, List.append_assoc]) rfl)
  refine RD.bind (RD.n8 h1) ?_
  dsimp only
  refine RD.bind (RD.n8 h2) ?_
  dsimp only
  refine RD.bind (RD.n8 h3) ?_
  dsimp only
  refine RD.bind (RD.listG (fun r acc i => (acc, r, i)) (fun r acc => (r, acc)) (fun s => some (s.2, s.1)) h.Gets rkB cf (by omega) (by decide) (fun x hx => RD.f (h4 x hx)) gets_step gets_end fun r => rfl) ?_
  dsimp only
  refine RD.bind (RD.listG (fun r acc i => (acc, r, i)) (fun r acc => (r, acc)) (fun s => some (s.2, s.1)) h.Scans scB cSpan (by omega) (by decide) (fun x hx => RD.span (h5 x hx)) scans_step scans_end fun r => rfl) ?_
  dsimp only
  refine RD.bind (RD.listG (fun r acc i => (acc, r, i)) (fun r acc => (r, acc)) (fun s => some (s.2, s.1)) h.Puts rkB cf (by omega) (by decide) (fun x hx => RD.f (h6 x hx)) puts_step puts_end fun r => rfl) ?_
  dsimp only
  exact RD.map (RD.bytes h.Data (by omega) (by decide) h7) fun r => rfl
theorem TT.hold : TT locks_Read holdG := by
  refine TT.of read_eqH ?_
  refine TT.bind TT.n8 fun a ha => ?_
  dsimp only
  refine TT.bind TT.n8 fun b hb => ?_
  dsimp only
  refine TT.bind TT.n8 fun e he => ?_
  dsimp only
  refine TT.bind (TT.listG (Q := fun l => (l.length : Int) ≤ 32 ∧ ∀ x ∈ l, _) (fun r acc i => (acc, r, i)) (fun r acc => (r, acc)) (fun s => some (s.2, s.1)) (by decide) (by decide) TT.f gets_step gets_end fun r acc h1 h2 => ⟨acc, rfl, h1, h2⟩) fun g hg => ?_
  dsimp only
  refine TT.bind (TT.listG (Q := fun l => (l.length : Int) ≤ 32 ∧ ∀ x ∈ l, _) (fun r acc i => (acc, r, i)) (fun r acc => (r, acc)) (fun s => some (s.2, s.1)) (by decide) (by decide) TT.span scans_step scans_end fun r acc h1 h2 => ⟨acc, rfl, h1, h2⟩) fun s hs => ?_
  dsimp only
  refine TT.bind (TT.listG (Q := fun l => (l.length : Int) ≤ 32 ∧ ∀ x ∈ l, _) (fun r acc i => (acc, r, i)) (fun r acc => (r, acc)) (fun s => some (s.2, s.1)) (by decide) (by decide) TT.f puts_step puts_end fun r acc h1 h2 => ⟨acc, rfl, h1, h2⟩) fun p hp => ?_
  dsimp only
  refine TT.bind (TT.bytes (by decide) (by decide)) fun d hd => ?_
  dsimp only
  exact TT.ret ⟨ha, hb, he, hg.2, hs.2, hp.2, Int.ofNat_le.1 hg.1, Int.ofNat_le.1 hs.1, Int.ofNat_le.1 hp.1, Int.ofNat_le.1 hd.1, hd.2⟩
end Go.Proofs.Ytbdhhmnncknhhaa
