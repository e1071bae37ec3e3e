/- Lists of data in slices: what a row of cells holds, as a list; generic over the program. -/
import Derived.Test.YtijcfglomdfglaaGvOps
set_option linter.unusedVariables false
set_option linter.unusedSimpArgs false
namespace Go.V
open Go

abbrev Rho := Nat → Value → List (List Value) → Prop
/-- A type of data: how many cells one takes, and what they say. -/
structure Ty (α : Type) where
  sz : Nat
  rep : Rho → α → List Value → Prop
  len : ∀ {ρ x cs}, rep ρ x cs → cs.length = sz
  mono : ∀ {ρ ρ' x cs}, (∀ n v css, ρ n v css → ρ' n v css) → rep ρ x cs → rep ρ' x cs
  one : ∀ {ρ x cs}, rep ρ x cs → ∀ v ∈ cs, v.oneCell' = true
/-- No slices within. -/
def Ty.Flat {α : Type} (E : Ty α) : Prop := ∀ {ρ ρ' x cs}, E.rep ρ x cs → E.rep ρ' x cs
def Reps {α : Type} (r : α → List Value → Prop) (xs : List α) (css : List (List Value)) : Prop :=
  xs.length = css.length ∧ ∀ (i : Nat) x cs, xs[i]? = some x → css[i]? = some cs → r x cs
section
variable {α : Type} {r r' : α → List Value → Prop} {xs ys : List α} {css dss : List (List Value)} {x : α} {cs : List Value} {i : Nat}
theorem Reps.nil : Reps r [] [] := ⟨rfl, by simp⟩
theorem Reps.get (h : Reps r xs css) (hi : xs[i]? = some x) : ∃ cs, css[i]? = some cs ∧ r x cs := by
  have hl := (List.getElem?_eq_some_iff.1 hi).1
  rw [h.1] at hl
  exact ⟨_, List.getElem?_eq_getElem hl, h.2 i _ _ hi (List.getElem?_eq_getElem hl)⟩
theorem Reps.app (h : Reps r xs css) (k : Reps r ys dss) : Reps r (xs ++ ys) (css ++ dss) := by
  refine ⟨by simp [h.1, k.1], fun i x cs hx hc => ?_⟩
  by_cases hi : i < xs.length
  · rw [List.getElem?_append_left hi] at hx
    rw [List.getElem?_append_left (by rw [← h.1]; exact hi)] at hc
    exact h.2 i x cs hx hc
  · rw [List.getElem?_append_right (by omega)] at hx
    rw [List.getElem?_append_right (by rw [← h.1]; omega), ← h.1] at hc
    exact k.2 _ x cs hx hc
theorem Reps.cons (h : r x cs) (k : Reps r ys dss) : Reps r (x :: ys) (cs :: dss) := by
  refine ⟨by simp [k.1], fun i y c hx hc => ?_⟩
  cases i with
  | zero => simp at hx hc; subst hx; subst hc; exact h
  | succ i => simp at hx hc; exact k.2 i y c hx hc
theorem Reps.one (h : r x cs) : Reps r [x] [cs] := Reps.cons h Reps.nil
theorem Reps.imp (h : Reps r xs css) (f : ∀ x cs, r x cs → r' x cs) : Reps r' xs css := ⟨h.1, fun i x cs hx hc => f _ _ (h.2 i x cs hx hc)⟩
theorem Reps.drop (h : Reps r xs css) (n : Nat) : Reps r (xs.drop n) (css.drop n) :=
  ⟨by simp [h.1], fun i x cs hx hc => h.2 (n + i) x cs (by simpa using hx) (by simpa using hc)⟩
theorem Reps.take (h : Reps r xs css) (n : Nat) : Reps r (xs.take n) (css.take n) := by
  refine ⟨by simp [h.1], fun i x cs hx hc => ?_⟩
  rw [List.getElem?_take] at hx hc
  split at hx
  · rename_i hlt; rw [if_pos hlt] at hc; exact h.2 i x cs hx hc
  · cases hx
theorem Reps.lens {E : Ty α} {ρ : Rho} (h : Reps (E.rep ρ) xs css) : ∀ cs ∈ css, cs.length = E.sz := by
  intro cs hc
  obtain ⟨i, hi⟩ := List.getElem?_of_mem hc
  have hl := (List.getElem?_eq_some_iff.1 hi).1
  rw [← h.1] at hl
  exact E.len (h.2 i _ _ (List.getElem?_eq_getElem hl) hi)
end

/-- A slice of such data. -/
def Sl {α : Type} (E : Ty α) (ρ : Rho) (v : Value) (xs : List α) : Prop := ∃ css, ρ E.sz v css ∧ Reps (E.rep ρ) xs css
theorem Sl.mono {α : Type} {E : Ty α} {ρ ρ' : Rho} {v : Value} {xs : List α} (f : ∀ n v css, ρ n v css → ρ' n v css) (h : Sl E ρ v xs) : Sl E ρ' v xs :=
  let ⟨css, h1, h2⟩ := h; ⟨css, f _ _ _ h1, h2.imp fun _ _ => E.mono f⟩
abbrev Ro {α : Type} (E : Ty α) (I : HL) (v : Value) (xs : List α) : Prop := Sl E (RoRow I) v xs
abbrev Rd {α : Type} (E : Ty α) (R : SP) (I : HL) (v : Value) (xs : List α) : Prop := Sl E (RdRow R I) v xs
theorem ro_le {I I' : HL} (h : I.le I') : ∀ n v css, RoRow I n v css → RoRow I' n v css := fun _ _ _ k => k.mono h
theorem rd_le {R : SP} {I I' : HL} (h : I.le I') : ∀ n v css, RdRow R I n v css → RdRow R I' n v css := fun _ _ _ k => k.mono h
theorem ro_rd {R : SP} {I : HL} : ∀ n v css, RoRow I n v css → RdRow R I n v css := fun _ _ _ k => k.rd R
theorem rd_weak {R : SP} {I : HL} (L : List SP) : ∀ n v css, RdRow R I n v css → RdRow (big L R) I n v css := fun _ _ _ k => k.weakL L
/-- An owned slice of such data. -/
def ownS {α : Type} (E : Ty α) (v : Value) (xs : List α) : SP := exS fun css => andS (fun I => Reps (E.rep (RoRow I)) xs css) (fun _ _ hI h => h.imp fun _ _ => E.mono (ro_le hI)) (row E.sz v css)

section
variable {α : Type} {E : Ty α} {ρ : Rho} {w0 w w' : World} {I I' : HL} {L L' : List SP} {R : SP} {v V : Value} {xs ys : List α} {x y : α} {cs cs' vs : List Value} {css nss : List (List Value)} {i k : Nat}
theorem rd_sliceV {v : Value} (h : Rd E R I v xs) : SliceV v xs.length := by
  obtain ⟨css, h1, h2⟩ := h
  rw [h2.1]; exact h1.sliceV
theorem ro_sliceV {v : Value} (h : Ro E I v xs) : SliceV v xs.length := rd_sliceV (R := emp) (h.mono ro_rd)
theorem St.own_openK (hst : St w0 w I L R) (k : Nat) (hL : L[k]? = some (ownS E v xs)) (hE : L.eraseIdx k = L') : ∃ css, Reps (E.rep (RoRow I)) xs css ∧ St w0 w I (row E.sz v css :: L') R := by
  obtain ⟨css, h⟩ := (hst.pull k hL hE).ex
  obtain ⟨h1, h2⟩ := h.and
  exact ⟨css, h1, h2⟩
theorem St.own_open (hst : St w0 w I (ownS E v xs :: L) R) : ∃ css, Reps (E.rep (RoRow I)) xs css ∧ St w0 w I (row E.sz v css :: L) R := hst.own_openK 0 rfl rfl
theorem St.own_close (hst : St w0 w I (row E.sz v css :: L) R) (h : Reps (E.rep (RoRow I)) xs css) : St w0 w I (ownS E v xs :: L) R :=
  hst.impl fun _ hk => ⟨css, h, hk⟩
theorem St.own_sliceV (hst : St w0 w I L R) (k : Nat) (hL : L[k]? = some (ownS E v xs)) : SliceV v xs.length := by
  obtain ⟨css, h1, h2⟩ := hst.own_openK k hL rfl
  rw [h1.1]; exact h2.row_form.2
/-- An element that is read. -/
theorem St.own_get (hst : St w0 w I L R) (k : Nat) (hL : L[k]? = some (ownS E v xs)) (hi : xs[i]? = some x) :
    ∃ cs, E.rep (RoRow I) x cs ∧ ∀ o y, cs[o]? = some y → w.cell? (eAddr v (i * E.sz + o)) = some y := by
  obtain ⟨css, h1, h2⟩ := hst.own_openK k hL rfl
  obtain ⟨cs, hc, hr⟩ := h1.get hi
  exact ⟨cs, hr, fun o y ho => h2.row_cell hc ho⟩
theorem Rd.get (h : Rd E R I v xs) (hI : I.le I') (hst : St w0 w I' L R) (hi : xs[i]? = some x) :
    ∃ cs, E.rep (RdRow R I') x cs ∧ ∀ o y, cs[o]? = some y → w.cell? (eAddr v (i * E.sz + o)) = some y := by
  obtain ⟨css, h1, h2⟩ := h
  obtain ⟨cs, hc, hr⟩ := h2.get hi
  exact ⟨cs, E.mono (rd_le hI) hr, fun o y ho => h1.cell hI hst hc ho⟩
theorem Ro.get (h : Ro E I v xs) (hst : St w0 w I L R) (hi : xs[i]? = some x) :
    ∃ cs, E.rep (RoRow I) x cs ∧ ∀ o y, cs[o]? = some y → w.cell? (eAddr v (i * E.sz + o)) = some y := by
  obtain ⟨css, h1, h2⟩ := h
  obtain ⟨cs, hc, hr⟩ := h2.get hi
  exact ⟨cs, hr, fun o y ho => (h1.rd R).cell (HL.le.refl _) hst hc ho⟩
theorem cells_of {a : Nat → Option Value} {o : Nat} (hv : (cs.drop o).take vs.length = vs) (hc : ∀ o y, cs[o]? = some y → a o = some y) : ∀ j y, vs[j]? = some y → a (o + j) = some y := by
  intro j y hj
  refine hc _ _ ?_
  rw [← hv, List.getElem?_take] at hj
  split at hj
  · simpa using hj
  · cases hj
theorem eCells {o : Nat} (hc : ∀ o y, cs[o]? = some y → w.cell? (eAddr V (k + o)) = some y) (hv : (cs.drop o).take vs.length = vs) : ∀ j y, vs[j]? = some y → w.cell? ((eAddr V (k + o)).add j) = some y := by
  intro j y hj
  rw [eAddr_add, Nat.add_assoc]
  exact cells_of hv hc j y hj
theorem St.own_fix (hst : St w0 w I (ownS E v xs :: L) R) : ∃ I', I.le I' ∧ Ro E I' v xs ∧ St w0 w I' L R := by
  obtain ⟨css, h1, h2⟩ := hst.own_open
  obtain ⟨I', hle, h3, h4⟩ := h2.row_fix
  exact ⟨I', hle, ⟨css, h3, h1.imp fun _ _ => E.mono (ro_le hle)⟩, h4⟩
theorem St.own_nil (hst : St w0 w I L R) (E : Ty α) : St w0 w I (ownS E (.slice none 0 0) [] :: L) R :=
  (hst.row_nil (sz := E.sz)).own_close Reps.nil
theorem Rd.of_row (n : Nat) (hst : St w0 w I L R) (hL : L[n]? = some (row E.sz v css)) (h : Reps (E.rep (RoRow I)) xs css) : Rd E (big L R) I v xs :=
  ⟨css, RdRow.of_row n hst hL, h.imp fun _ _ => E.mono ro_rd⟩

/-- What an append takes in. -/
def Src (E : Ty α) (w : World) (I : HL) (x : Value) (ys : List α) : Prop :=
  SliceV x ys.length ∧ ∃ nss, Reps (E.rep (RoRow I)) ys nss ∧ ∀ k y, nss.flatten[k]? = some y → w.cell? (eAddr x k) = some y
theorem flat_split {css : List (List Value)} {sz : Nat} (hl : ∀ cs ∈ css, cs.length = sz) : ∀ {k : Nat} {y : Value}, css.flatten[k]? = some y → ∃ i o cs, css[i]? = some cs ∧ cs[o]? = some y ∧ k = i * sz + o := by
  induction css with
  | nil => intro k y h; simp at h
  | cons c css ih =>
    intro k y h
    have hc : c.length = sz := hl c (by simp)
    rw [List.flatten_cons] at h
    by_cases hk : k < c.length
    · rw [List.getElem?_append_left hk] at h
      exact ⟨0, k, c, rfl, h, by simp⟩
    · rw [List.getElem?_append_right (by omega)] at h
      obtain ⟨i, o, cs, h1, h2, h3⟩ := ih (fun cs h => hl cs (by simp [h])) h
      exact ⟨i + 1, o, cs, by simpa using h1, h2, by rw [Nat.succ_mul]; omega⟩
theorem Src.of_own (hst : St w0 w I L R) (k : Nat) (hL : L[k]? = some (ownS E v xs)) : Src E w I v xs := by
  obtain ⟨css, h1, h2⟩ := hst.own_openK k hL rfl
  refine ⟨hst.own_sliceV k hL, css, h1, fun k y hk => ?_⟩
  obtain ⟨i, o, cs, g1, g2, rfl⟩ := flat_split h1.lens hk
  exact h2.row_cell g1 g2
theorem Src.of_ro (hst : St w0 w I L R) (h : Ro E I v xs) : Src E w I v xs := by
  refine ⟨ro_sliceV h, ?_⟩
  obtain ⟨css, h1, h2⟩ := h
  refine ⟨css, h2, fun k y hk => ?_⟩
  obtain ⟨i, o, cs, g1, g2, rfl⟩ := flat_split h2.lens hk
  exact (h1.rd R).cell (HL.le.refl _) hst g1 g2
theorem Src.of_rd (hst : St w0 w I L R) (h : Rd E R I v xs) (hf : E.Flat) : Src E w I v xs := by
  refine ⟨rd_sliceV h, ?_⟩
  obtain ⟨css, h1, h2⟩ := h
  refine ⟨css, h2.imp fun _ _ => hf, fun k y hk => ?_⟩
  obtain ⟨i, o, cs, g1, g2, rfl⟩ := flat_split h2.lens hk
  exact h1.cell (HL.le.refl _) hst g1 g2
theorem Src.nil : Src E w I (.slice none 0 0) ([] : List α) := ⟨SliceV.nil, [], Reps.nil, by simp⟩
end
end Go.V
