/- append, make, slices of slices, literals; generic over the program. -/
import Derived.Test.YtijcfglomdfglaaGvTy
set_option linter.unusedVariables false
set_option linter.unusedSimpArgs false
namespace Go.V
open Go

theorem setMany_app (vs : List Value) : ∀ (A B : List Value), vs.length ≤ B.length → setMany (A ++ B) A.length vs = A ++ (vs ++ B.drop vs.length) := by
  induction vs with
  | nil => intro A B _; simp [setMany]
  | cons v vs ih =>
    intro A B h
    cases B with
    | nil => simp at h
    | cons y B =>
      simp at h
      simp only [setMany]
      rw [List.set_append_right _ _ (Nat.le_refl _), Nat.sub_self, List.set_cons_zero]
      have := ih (A ++ [v]) B h
      simp only [List.length_append, List.length_cons, List.length_nil, List.append_assoc, List.singleton_append, Nat.zero_add] at this
      rw [this]; simp
theorem growBy_le (n : Nat) : ∀ (r c : Nat), c ≤ 2 * n + 200 → Builtin.growBy n r c ≤ 2 * n + 200
  | 0, c, h => h
  | r + 1, c, h => by
    unfold Builtin.growBy
    split
    · exact h
    · exact growBy_le n r _ (by omega)
theorem nextslicecap_le (n c : Nat) (h : c < n) : Builtin.nextslicecap n c ≤ 2 * n + 200 := by
  unfold Builtin.nextslicecap
  split
  · omega
  · split
    · omega
    · exact growBy_le n 4 c (by omega)

section
variable {P : Program} {ρ : Operand → Value} {α : Type} {E : Ty α} {w0 w w' : World} {I I' : HL} {L L' : List SP} {R : SP} {v x V : Value} {xs ys : List α} {i k : Nat} {t t' e : TypeId} {inf : TypeInfo} {z : Value} {b o : Nat} {cs : List Value}

theorem Reps.ones {r : Rho} {xs : List α} {css : List (List Value)} (h : Reps (E.rep r) xs css) : ∀ v ∈ css.flatten, v.oneCell' = true := by
  intro v hv
  obtain ⟨c, hc, hv⟩ := List.mem_flatten.1 hv
  obtain ⟨i, hi⟩ := List.getElem?_of_mem hc
  have hl := (List.getElem?_eq_some_iff.1 hi).1
  rw [← h.1] at hl
  exact E.one (h.2 i _ _ (List.getElem?_eq_getElem hl) hi) v hv
theorem run_firstCells {n sz : Nat} {css : List (List Value)} (hv : SliceV x n) (hl : ∀ cs ∈ css, cs.length = sz) (hn : n = css.length) (hc : ∀ k y, css.flatten[k]? = some y → w.cell? (eAddr x k) = some y) :
    (Builtin.firstCells sz n x).run P w = .ok css.flatten.toArray w := by
  obtain ⟨a, cap, rfl, h1, h2⟩ := hv
  cases a with
  | none =>
    have : n = 0 := by
      rcases Nat.eq_zero_or_pos n with h | h
      · exact h
      · obtain ⟨b, off, e⟩ := h2 (by omega); cases e
    have : css = [] := List.eq_nil_of_length_eq_zero (by omega)
    subst this; rfl
  | some a =>
    have hfl := flat_len hl
    simp only [Builtin.firstCells]
    rw [hn, ← hfl]
    by_cases h0 : n = 0
    · have : css = [] := List.eq_nil_of_length_eq_zero (by omega)
      subst this; rfl
    · obtain ⟨b, off, e⟩ := h2 h0
      cases e
      refine run_loadCells_list w _ _ fun j y hj => ?_
      rw [add_none]
      exact hc j y hj
/-- What the program's tables say of an element's type. -/
structure Elem (P : Program) (E : Ty α) (t e : TypeId) (inf : TypeInfo) (z : Value) : Prop where
  ht : P.underlying t = some (.slice e)
  hi : P.info? e = some inf
  hz : inf.zero = some z
  hzs : z.cells.size = E.sz
  hsz : inf.size = E.sz
  hb : 0 < inf.bytes ∧ inf.bytes ≤ 1000
theorem zeroCells_len (z : Array Value) (n : Nat) : (Builtin.zeroCells z n).size = n * z.size := by simp [Builtin.zeroCells]
theorem run_append (he : Elem P E t e inf z) (ht' : P.underlying t' = some (.slice e)) (hst : St w0 w I (ownS E v xs :: L) R)
    (hsrc : Src E w I x ys) (hroom : (xs.length + ys.length) * inf.bytes ≤ 70368744177664) (ty : TypeId) :
    ∃ v' w', (Builtin.append_ #[t, t'] ty #[v, x]).run P w = .ok v' w' ∧ St w0 w' I (ownS E v' (xs ++ ys) :: L) R := by
  obtain ⟨css, hr, h⟩ := hst.own_open
  obtain ⟨hsx, nss, hrn, hcn⟩ := hsrc
  have hnl := hrn.lens
  have hlen : ys.length = nss.length := hrn.1
  have hxlen : xs.length = css.length := hr.1
  obtain ⟨hcl, hsv⟩ := h.row_form
  have hsizeOf : ∀ w : World, (sizeOf e).run P w = .ok E.sz w := fun w => by simp [sizeOf, typeInfo, he.hi, he.hsz]
  have hinfo : ∀ w : World, (typeInfo e).run P w = .ok inf w := fun w => by simp [typeInfo, he.hi]
  have hzero : ∀ w : World, (zeroValue e).run P w = .ok z w := fun w => by simp [zeroValue, typeInfo, he.hi, he.hz]
  have hu : ∀ w : World, (underlying t).run P w = .ok (.slice e) w := fun w => by simp [underlying, he.ht]
  have hu' : ∀ w : World, (underlying t').run P w = .ok (.slice e) w := fun w => by simp [underlying, ht']
  have hfirst := run_firstCells (P := P) (w := w) (sz := E.sz) hsx hnl hlen hcn
  have hlenx : (Builtin.lenOf x).run P w = .ok ys.length w := by
    obtain ⟨a, cap, rfl, _, _⟩ := hsx; rfl
  have hones := hrn.ones
  have hold : (Builtin.firstCells E.sz css.length v).run P w = .ok css.flatten.toArray w := by
    refine run_firstCells hsv hcl rfl fun k y hk => ?_
    obtain ⟨i, o, cs, g1, g2, rfl⟩ := flat_split hcl hk
    exact h.row_cell g1 g2
  obtain ⟨a, cap, rfl, hcap, hne⟩ := hsv
  have happ : Reps (E.rep (RoRow I)) (xs ++ ys) (css ++ nss) := hr.app hrn
  by_cases hfit : css.length + ys.length ≤ cap
  · -- in place
    cases a with
    | none =>
      have h0 : css = [] := by
        rcases Nat.eq_zero_or_pos css.length with h | h
        · exact List.eq_nil_of_length_eq_zero h
        · obtain ⟨b, off, e⟩ := hne (by omega); cases e
      subst h0
      have hcap0 : cap = 0 := by
        obtain ⟨e, i, k, ⟨h1, h2, hd, hee, pa, pb⟩, hs, hj⟩ := h
        rcases pa with ⟨a', h1, _⟩ | ⟨b, off, cap, pre, junk, h1, _⟩
        · cases h1; rfl
        · cases h1
      have hy0 : ys.length = 0 := by simp at hfit; omega
      have hn0 : nss = [] := List.eq_nil_of_length_eq_zero (by omega)
      subst hn0
      subst hcap0
      refine ⟨.slice none 0 0, w, ?_, ?_⟩
      · simp only [Builtin.append_, List.getElem?_toArray, List.getElem?_cons_zero, List.getElem?_cons_succ, Sem.run_bind, Sem.run_pure, Result.andThen, hu, hu', hsizeOf, Bool.false_eq_true, if_false, hlenx, hy0, Nat.add_zero, List.length_nil, Nat.le_refl, if_true, Bool.not_false, Sem.run_ite]
        rw [hy0] at hfirst
        simp only [hfirst, Result.andThen]
      · exact h.own_close (by simpa using happ)
    | some a =>
      have h' := h
      obtain ⟨e0, i0, kk, ⟨h1, h2, hd, hee, pa, pb⟩, hs, hj⟩ := h
      rcases pa with ⟨a', hv, h0⟩ | ⟨b, off, cap', pre, junk, hv, g1, g2, g3, g4, g5⟩
      · subst h0
        cases hv
        have hy0 : ys.length = 0 := by simpa using hfit
        have hn0 : nss = [] := List.eq_nil_of_length_eq_zero (by omega)
        subst hn0
        refine ⟨.slice (some a) 0 0, w, ?_, ?_⟩
        · simp only [Builtin.append_, List.getElem?_toArray, List.getElem?_cons_zero, List.getElem?_cons_succ, Sem.run_bind, Sem.run_pure, Result.andThen, hu, hu', hsizeOf, Bool.false_eq_true, if_false, hlenx, hy0, Nat.add_zero, List.length_nil, Nat.le_refl, if_true, Bool.not_false, Sem.run_ite]
          rw [hy0] at hfirst
          simp [hfirst, Result.andThen, storeCells]
        · exact h'.own_close (by simpa using happ)
      · cases hv
        have hcells : St w0 w I (cells b (pre ++ (css.flatten ++ junk)) :: L) R := ⟨e0, i0, kk, ⟨h1, h2, hd, hee, g5, pb⟩, hs, hj⟩
        have hfl := flat_len hcl
        have hnfl := flat_len hnl
        have hjl : nss.flatten.length ≤ junk.length := by
          rw [g4, hnfl]
          exact Nat.mul_le_mul_right _ (by omega)
        obtain ⟨w', hrun, hst'⟩ := hcells.boxStores (P := P) nss.flatten (off + css.length * E.sz) 0 (by rw [List.length_append, List.length_append, hfl, g3]; omega) hones
        have hset : setMany (pre ++ (css.flatten ++ junk)) (off + css.length * E.sz + 0) nss.flatten = pre ++ ((css ++ nss).flatten ++ junk.drop nss.flatten.length) := by
          have := setMany_app nss.flatten (pre ++ css.flatten) junk hjl
          rw [List.length_append, hfl, g3] at this
          rw [← List.append_assoc, Nat.add_zero, this]
          simp [List.flatten_append]
        rw [hset] at hst'
        refine ⟨.slice (some ⟨b, off, none⟩) (css.length + ys.length) cap, w', ?_, ?_⟩
        · simp only [Builtin.append_, List.getElem?_toArray, List.getElem?_cons_zero, List.getElem?_cons_succ, Sem.run_bind, Sem.run_pure, Result.andThen, hu, hu', hsizeOf, Bool.false_eq_true, if_false, hlenx, hfit, if_true, Bool.not_false, Sem.run_ite, hfirst, add_none]
          rw [hrun]
        · have h3 := hst'.row_mk (sz := E.sz) (css := css ++ nss) (cap := cap) (by simp; omega) (fun c hc => by
            rcases List.mem_append.1 hc with h | h
            · exact hcl c h
            · exact hnl c h) g3 (by
              rw [List.length_drop, g4, hnfl, List.length_append, ← Nat.sub_mul]; congr 1; omega)
          have h4 := h3.own_close happ
          rw [List.length_append, ← hlen] at h4
          exact h4
  · -- a new row
    have hn : css.length + ys.length = xs.length + ys.length := by omega
    have hroom' : Builtin.nextslicecap (css.length + ys.length) cap * inf.bytes ≤ 2 ^ 48 := by
      have h1 := nextslicecap_le (css.length + ys.length) cap (by omega)
      have h2 : Builtin.nextslicecap (css.length + ys.length) cap * inf.bytes ≤ (2 * (css.length + ys.length) + 200) * inf.bytes := Nat.mul_le_mul_right _ h1
      have h3 : (2 * (css.length + ys.length) + 200) * inf.bytes = 2 * ((css.length + ys.length) * inf.bytes) + 200 * inf.bytes := by
        rw [Nat.add_mul, Nat.mul_assoc]
      have h4 := he.hb.2
      rw [hn] at *
      omega
    have hneed : (css.length + ys.length) * 1 ≤ (css.length + ys.length) * inf.bytes := Nat.mul_le_mul_left _ he.hb.1
    have hmax : ¬ ((css.length + ys.length : Nat) : Int) > IntKind.i64.max := by
      have : (IntKind.i64.max : Int) = 9223372036854775807 := by decide
      rw [this, hn] at *
      omega
    have hbytes : inf.bytes ≠ 0 := by have := he.hb.1; omega
    let q : Question := .appendCap (css.length + ys.length) cap e
    let newCap := q.cut (w.tape w.drawn q)
    have hnc : css.length + ys.length ≤ newCap := by
      show _ ≤ Question.cut _ _
      simp only [q, Question.cut]
      omega
    let rest := Builtin.zeroCells z.cells (newCap - (css.length + ys.length))
    have hw1 : St w0 { w with drawn := w.drawn + 1 } I (row E.sz (.slice a css.length cap) css :: L) R := h.drawn _
    have h5 := (hw1.sub).new ((css ++ nss).flatten ++ rest.toList) e
    have h6 := h5.row_mk (sz := E.sz) (css := css ++ nss) (pre := []) (off := 0) (junk := rest.toList) (cap := newCap) (by rw [List.length_append]; omega) (fun c hc => by
            rcases List.mem_append.1 hc with h | h
            · exact hcl c h
            · exact hnl c h) rfl (by
            rw [Array.length_toList, zeroCells_len, he.hzs, List.length_append]; congr 1; omega)
    refine ⟨_, _, ?_, h6.own_close happ⟩
    have hold' : (Builtin.firstCells E.sz css.length (.slice a css.length cap)).run P { w with drawn := w.drawn + 1 } = .ok css.flatten.toArray { w with drawn := w.drawn + 1 } := by
      refine run_firstCells ⟨a, cap, rfl, hcap, hne⟩ hcl rfl fun k y hk => ?_
      obtain ⟨i, o, cs, g1, g2, rfl⟩ := flat_split hcl hk
      exact hw1.row_cell g1 g2
    have hfirst' : (Builtin.firstCells E.sz ys.length x).run P { w with drawn := w.drawn + 1 } = .ok nss.flatten.toArray { w with drawn := w.drawn + 1 } :=
      run_firstCells hsx hnl hlen hcn
    have hforced : q.forced = false := rfl
    simp only [Builtin.append_, List.getElem?_toArray, List.getElem?_cons_zero, List.getElem?_cons_succ, Sem.run_bind, Sem.run_pure, Result.andThen, hu, hu', hsizeOf, hinfo, Bool.false_eq_true, if_false, hlenx, hfit, Bool.not_false, if_true, hmax, false_and, Sem.run_ite, run_choose,
      Nat.not_lt.2 hroom', gt_iff_lt, run_askRoom, hold', hfirst', hzero, newRow, run_newObj, q, Question.forced]
    have harr : css.flatten.toArray ++ nss.flatten.toArray ++ rest = ((css ++ nss).flatten ++ rest.toList).toArray := by
      apply Array.ext'
      simp
    show Result.ok (Value.slice (some ⟨w.heap.size, 0, none⟩) (css.length + ys.length) newCap) { w with heap := w.heap.push (.cells (css.flatten.toArray ++ nss.flatten.toArray ++ rest) e), drawn := w.drawn + 1 } = _
    rw [harr, List.length_append, ← hlen]
    rfl
end
end Go.V
